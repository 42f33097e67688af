/- Texts of the laws, own part of SlingGust. No conditions. -/
import Derived.Test.YthohcimmoobaoaaPSetsA13
import Derived.Test.YthohcimmoobaoaaRows
/- The functions' bodies, translated. Written by a program; no conditions. -/
namespace Go.Proofs.Ythohcimmoobaoaa
open Go.RowKit Lift

/-- law07_SlingGust -/
def claw07_SlingGust : ACode :=
  (.seq
   (.region false [⟨some 2, .box (.tmp 0), none, []⟩,
     ⟨some 3, .box (.tmp 1), none, []⟩,
     ⟨some 4, .mv (.const (.bool false)), none, []⟩] [])
  (.seq
   (.seq
    (.region false [⟨some 19, .loadN 3 (.tmp 2), none, []⟩,
      ⟨some 20, .fad 0 (.tmp 3), none, []⟩,
      ⟨some 21, .load1 (.tmp 20), none, []⟩,
      ⟨some 22, .fad 1 (.tmp 3), none, []⟩,
      ⟨some 23, .loadN 2 (.tmp 22), none, []⟩,
      ⟨some 24, .fad 5 (.tmp 3), none, []⟩,
      ⟨some 25, .load1 (.tmp 24), none, []⟩,
      ⟨some 26, .call (.func 41) [(.tmp 19), (.tmp 21), (.tmp 23), (.tmp 25)], none, []⟩,
      ⟨some 27, .bin .neq (.tmp 26) (.const (.int .i64 0)), none, []⟩] [19, 20, 21, 22, 23, 24, 25, 26])
   (.cond (.tmp 27)
     (.seq
      (.region false [⟨some 28, .call (.func 15) [], none, []⟩,
        ⟨some 4, .mv (.tmp 28), none, []⟩] [28])
     .ret)
     .skip))
  (.seq
   (.region false [⟨some 30, .loadN 3 (.tmp 2), none, []⟩,
     ⟨some 31, .fad 0 (.tmp 3), none, []⟩,
     ⟨some 32, .load1 (.tmp 31), none, []⟩,
     ⟨some 33, .fad 5 (.tmp 3), none, []⟩,
     ⟨some 34, .load1 (.tmp 33), none, []⟩,
     ⟨some 35, .fad 3 (.tmp 3), none, []⟩,
     ⟨some 36, .loadN 2 (.tmp 35), none, []⟩,
     ⟨some 37, .call (.func 47) [(.tmp 30), (.tmp 32), (.tmp 34), (.tmp 36)], none, []⟩,
     ⟨some 29, .mv (.tmp 37), none, []⟩,
     ⟨some 38, .ext (.tmp 29) 0, none, []⟩,
     ⟨some 39, .ext (.tmp 29) 1, none, []⟩,
     ⟨some 5, .mv (.tmp 38), none, []⟩,
     ⟨some 6, .mv (.tmp 39), none, []⟩] [30, 31, 32, 33, 34, 35, 36, 37, 29, 38, 39])
  (.seq
   (.seq
    (.region false [⟨some 40, .mv (.tmp 6), none, []⟩,
      ⟨some 41, .bin .neq (.tmp 40) (.const (.int .i64 0)), none, []⟩,
      ⟨some 42, .mv (.tmp 41), none, []⟩,
      ⟨some 43, .mv (.tmp 6), (some (some 42, true)), []⟩,
      ⟨some 44, .bin .neq (.tmp 43) (.const (.int .i64 3)), (some (some 42, true)), []⟩,
      ⟨some 45, .pick (.tmp 42) (.tmp 44) (.const (.bool false)), none, []⟩] [40, 41, 42, 43, 44])
   (.cond (.tmp 45)
     (.seq
      (.region false [⟨some 46, .call (.func 15) [], none, []⟩,
        ⟨some 4, .mv (.tmp 46), none, []⟩] [46])
     .ret)
     .skip))
  (.seq
   (.seq
    (.region false [⟨some 47, .mv (.tmp 6), none, []⟩,
      ⟨some 48, .bin .eql (.tmp 47) (.const (.int .i64 3)), none, []⟩] [47])
   (.cond (.tmp 48)
     (.region false [⟨some 5, .mv (.const (.int .i64 (-1))), none, []⟩] [])
     .skip))
  (.seq
   (.seq
    (.region false [⟨some 49, .mv (.tmp 5), none, []⟩,
      ⟨some 50, .bin .lss (.tmp 49) (.const (.int .i64 (-1))), none, []⟩,
      ⟨some 51, .mv (.tmp 50), none, []⟩,
      ⟨some 52, .mv (.tmp 5), (some (some 51, false)), []⟩,
      ⟨some 53, .bin .gtr (.tmp 52) (.const (.int .i64 100)), (some (some 51, false)), []⟩,
      ⟨some 54, .pick (.tmp 51) (.const (.bool true)) (.tmp 53), none, []⟩] [49, 50, 51, 52, 53])
   (.cond (.tmp 54)
     (.seq
      (.region false [⟨some 4, .mv (.const (.bool false)), none, []⟩] [])
     .ret)
     .skip))
  (.seq
   (.seq
    (.region false [⟨some 55, .mv (.tmp 5), none, []⟩,
      ⟨some 56, .bin .geq (.tmp 55) (.const (.int .i64 0)), none, []⟩] [55])
   (.cond (.tmp 56)
     (.seq
      (.region false [⟨some 58, .loadN 3 (.tmp 2), none, []⟩,
        ⟨some 59, .fad 0 (.tmp 3), none, []⟩,
        ⟨some 60, .load1 (.tmp 59), none, []⟩,
        ⟨some 61, .mv (.tmp 5), none, []⟩,
        ⟨some 62, .un .neg (.tmp 61), none, []⟩,
        ⟨some 63, .mv (.tmp 5), none, []⟩,
        ⟨some 64, .build [(.val (.int .i64 0)), (.val (.int .i64 0))] [(0, 1, (.tmp 62)), (1, 1, (.tmp 63))], none, []⟩,
        ⟨some 65, .fad 5 (.tmp 3), none, []⟩,
        ⟨some 66, .load1 (.tmp 65), none, []⟩,
        ⟨some 67, .fad 3 (.tmp 3), none, []⟩,
        ⟨some 68, .loadN 2 (.tmp 67), none, []⟩,
        ⟨some 69, .call (.func 45) [(.tmp 58), (.tmp 60), (.tmp 64), (.tmp 66), (.tmp 68)], none, []⟩,
        ⟨some 57, .mv (.tmp 69), none, []⟩,
        ⟨some 70, .ext (.tmp 57) 0, none, []⟩,
        ⟨some 71, .ext (.tmp 57) 1, none, []⟩,
        ⟨some 72, .ext (.tmp 57) 2, none, []⟩,
        ⟨some 7, .mv (.tmp 70), none, []⟩,
        ⟨some 8, .mv (.tmp 71), none, []⟩,
        ⟨some 9, .mv (.tmp 72), none, []⟩] [58, 59, 60, 61, 62, 63, 64, 65, 66, 67, 68, 69, 57, 70, 71, 72, 7])
     (.seq
      (.region false [⟨some 73, .mv (.tmp 9), none, []⟩,
        ⟨some 74, .bin .neq (.tmp 73) (.const (.int .i64 0)), none, []⟩,
        ⟨some 75, .mv (.tmp 74), none, []⟩,
        ⟨some 76, .mv (.tmp 8), (some (some 75, false)), []⟩,
        ⟨some 77, .un .not (.tmp 76), (some (some 75, false)), []⟩,
        ⟨some 78, .pick (.tmp 75) (.const (.bool true)) (.tmp 77), none, []⟩] [73, 74, 75, 76, 77])
     (.cond (.tmp 78)
       (.seq
        (.region false [⟨some 4, .mv (.const (.bool false)), none, []⟩] [])
       .ret)
       .skip)))
     .skip))
  (.seq
   (.seq
    (.region false [⟨some 79, .mv (.tmp 5), none, []⟩,
      ⟨some 80, .bin .lss (.tmp 79) (.const (.int .i64 100)), none, []⟩] [79])
   (.cond (.tmp 80)
     (.seq
      (.region false [⟨some 82, .loadN 3 (.tmp 2), none, []⟩,
        ⟨some 83, .fad 0 (.tmp 3), none, []⟩,
        ⟨some 84, .load1 (.tmp 83), none, []⟩,
        ⟨some 85, .mv (.tmp 5), none, []⟩,
        ⟨some 86, .un .neg (.tmp 85), none, []⟩,
        ⟨some 87, .bin .sub (.tmp 86) (.const (.int .i64 1)), none, []⟩,
        ⟨some 88, .mv (.tmp 5), none, []⟩,
        ⟨some 89, .bin .add (.tmp 88) (.const (.int .i64 1)), none, []⟩,
        ⟨some 90, .build [(.val (.int .i64 0)), (.val (.int .i64 0))] [(0, 1, (.tmp 87)), (1, 1, (.tmp 89))], none, []⟩,
        ⟨some 91, .fad 5 (.tmp 3), none, []⟩,
        ⟨some 92, .load1 (.tmp 91), none, []⟩,
        ⟨some 93, .fad 3 (.tmp 3), none, []⟩,
        ⟨some 94, .loadN 2 (.tmp 93), none, []⟩,
        ⟨some 95, .call (.func 45) [(.tmp 82), (.tmp 84), (.tmp 90), (.tmp 92), (.tmp 94)], none, []⟩,
        ⟨some 81, .mv (.tmp 95), none, []⟩,
        ⟨some 96, .ext (.tmp 81) 0, none, []⟩,
        ⟨some 97, .ext (.tmp 81) 1, none, []⟩,
        ⟨some 98, .ext (.tmp 81) 2, none, []⟩,
        ⟨some 10, .mv (.tmp 96), none, []⟩,
        ⟨some 11, .mv (.tmp 97), none, []⟩,
        ⟨some 12, .mv (.tmp 98), none, []⟩] [82, 83, 84, 85, 86, 87, 88, 89, 90, 91, 92, 93, 94, 95, 81, 96, 97, 98, 10])
     (.seq
      (.region false [⟨some 99, .mv (.tmp 12), none, []⟩,
        ⟨some 100, .bin .neq (.tmp 99) (.const (.int .i64 0)), none, []⟩,
        ⟨some 101, .mv (.tmp 100), none, []⟩,
        ⟨some 102, .mv (.tmp 11), (some (some 101, false)), []⟩,
        ⟨some 103, .pick (.tmp 101) (.const (.bool true)) (.tmp 102), none, []⟩] [99, 100, 101, 102])
     (.cond (.tmp 103)
       (.seq
        (.region false [⟨some 4, .mv (.const (.bool false)), none, []⟩] [])
       .ret)
       .skip)))
     .skip))
  (.seq
   (.region false [⟨some 105, .loadN 3 (.tmp 2), none, []⟩,
     ⟨some 106, .fad 0 (.tmp 3), none, []⟩,
     ⟨some 107, .load1 (.tmp 106), none, []⟩,
     ⟨some 108, .fad 1 (.tmp 3), none, []⟩,
     ⟨some 109, .loadN 2 (.tmp 108), none, []⟩,
     ⟨some 110, .fad 5 (.tmp 3), none, []⟩,
     ⟨some 111, .load1 (.tmp 110), none, []⟩,
     ⟨some 112, .fad 3 (.tmp 3), none, []⟩,
     ⟨some 113, .loadN 2 (.tmp 112), none, []⟩,
     ⟨some 114, .call (.func 45) [(.tmp 105), (.tmp 107), (.tmp 109), (.tmp 111), (.tmp 113)], none, []⟩,
     ⟨some 104, .mv (.tmp 114), none, []⟩,
     ⟨some 115, .ext (.tmp 104) 0, none, []⟩,
     ⟨some 116, .ext (.tmp 104) 1, none, []⟩,
     ⟨some 117, .ext (.tmp 104) 2, none, []⟩,
     ⟨some 13, .mv (.tmp 115), none, []⟩,
     ⟨some 14, .mv (.tmp 116), none, []⟩,
     ⟨some 15, .mv (.tmp 117), none, []⟩] [105, 106, 107, 108, 109, 110, 111, 112, 113, 114, 104, 115, 116, 117, 13])
  (.seq
   (.seq
    (.region false [⟨some 118, .mv (.tmp 15), none, []⟩,
      ⟨some 119, .bin .neq (.tmp 118) (.const (.int .i64 0)), none, []⟩] [118])
   (.cond (.tmp 119)
     (.seq
      (.region false [⟨some 4, .mv (.const (.bool false)), none, []⟩] [])
     .ret)
     .skip))
  (.seq
   (.region true [⟨some 120, .fad 0 (.tmp 3), none, []⟩,
     ⟨some 121, .load1 (.tmp 120), none, [0]⟩,
     ⟨some 122, .iadS 2 (.tmp 121) (.const (.int .i64 0)), none, [1, 0]⟩,
     ⟨some 123, .loadN 2 (.tmp 122), none, [2, 1, 0]⟩,
     ⟨some 124, .call (.func 34) [(.tmp 123)], none, [3, 2, 1, 0]⟩,
     ⟨some 125, .fad 0 (.tmp 3), none, []⟩,
     ⟨some 126, .load1 (.tmp 125), none, [5]⟩,
     ⟨some 127, .iadS 2 (.tmp 126) (.const (.int .i64 1)), none, [6, 5]⟩,
     ⟨some 128, .loadN 2 (.tmp 127), none, [7, 6, 5]⟩,
     ⟨some 129, .call (.func 34) [(.tmp 128)], none, [8, 7, 6, 5, 4, 3, 2, 1, 0]⟩,
     ⟨some 130, .buildSl 2 2 [(.val (.int .i64 0)), (.val (.int .i64 0)), (.val (.int .i64 0)), (.val (.int .i64 0))] [(0, 2, (.tmp 124)), (2, 2, (.tmp 129))], none, [4, 3, 2, 1, 0, 9, 8, 7, 6, 5]⟩,
     ⟨some 16, .mv (.tmp 130), none, [10, 4, 3, 2, 1, 0, 9, 8, 7, 6, 5]⟩] [120, 121, 122, 123, 124, 125, 126, 127, 128, 129, 130])
  (.seq
   (.region true [⟨some 132, .loadN 3 (.tmp 2), none, []⟩,
     ⟨some 133, .mv (.tmp 16), none, []⟩,
     ⟨some 134, .fad 1 (.tmp 3), none, []⟩,
     ⟨some 135, .loadN 2 (.tmp 134), none, [2]⟩,
     ⟨some 136, .call (.func 34) [(.tmp 135)], none, [3, 2]⟩,
     ⟨some 137, .fad 5 (.tmp 3), none, []⟩,
     ⟨some 138, .load1 (.tmp 137), none, [5]⟩,
     ⟨some 139, .fad 3 (.tmp 3), none, []⟩,
     ⟨some 140, .loadN 2 (.tmp 139), none, [7]⟩,
     ⟨some 141, .call (.func 45) [(.tmp 132), (.tmp 133), (.tmp 136), (.tmp 138), (.tmp 140)], none, [0, 1, 4, 3, 2, 6, 5, 8, 7]⟩,
     ⟨some 131, .mv (.tmp 141), none, [9, 0, 1, 4, 3, 2, 6, 5, 8, 7]⟩,
     ⟨some 142, .ext (.tmp 131) 0, none, [10, 9, 0, 1, 4, 3, 2, 6, 5, 8, 7]⟩,
     ⟨some 143, .ext (.tmp 131) 1, none, [10, 9, 0, 1, 4, 3, 2, 6, 5, 8, 7]⟩,
     ⟨some 144, .ext (.tmp 131) 2, none, [10, 9, 0, 1, 4, 3, 2, 6, 5, 8, 7]⟩,
     ⟨some 17, .mv (.tmp 142), none, [11, 10, 9, 0, 1, 4, 3, 2, 6, 5, 8, 7]⟩,
     ⟨some 18, .mv (.tmp 143), none, [12, 10, 9, 0, 1, 4, 3, 2, 6, 5, 8, 7, 14, 11]⟩,
     ⟨some 15, .mv (.tmp 144), none, [13, 10, 9, 0, 1, 4, 3, 2, 6, 5, 8, 7, 15, 12, 14, 11]⟩] [132, 133, 134, 135, 136, 137, 138, 139, 140, 141, 131, 142, 143, 144, 17])
  (.seq
   (.region false [⟨some 145, .mv (.tmp 15), none, []⟩,
     ⟨some 146, .bin .eql (.tmp 145) (.const (.int .i64 0)), none, []⟩,
     ⟨some 147, .mv (.tmp 146), none, []⟩,
     ⟨some 148, .mv (.tmp 14), (some (some 147, true)), []⟩,
     ⟨some 149, .un .not (.tmp 148), (some (some 147, true)), []⟩,
     ⟨some 150, .mv (.tmp 149), (some (some 147, true)), []⟩,
     ⟨some 151, .mv (.tmp 18), (some (some 150, false)), []⟩,
     ⟨some 152, .pick (.tmp 150) (.const (.bool true)) (.tmp 151), (some (some 147, true)), []⟩,
     ⟨some 153, .pick (.tmp 147) (.tmp 152) (.const (.bool false)), none, []⟩,
     ⟨some 154, .mv (.tmp 153), none, []⟩,
     ⟨some 155, .call (.func 15) [], (some (some 154, true)), []⟩,
     ⟨some 156, .pick (.tmp 154) (.tmp 155) (.const (.bool false)), none, []⟩,
     ⟨some 4, .mv (.tmp 156), none, []⟩] [145, 146, 147, 148, 149, 150, 151, 152, 153, 154, 155, 156])
  .ret)))))))))))))
set_option maxRecDepth 100000 in
theorem klaw07_SlingGust : IsCode Try.prog 13 157 claw07_SlingGust [.tmp 4] :=
  ⟨Try.f13, _, [119, 103, 80, 78, 56, 54, 48, 45, 27, 0, 1, 2, 3, 6, 5, 9, 8, 12, 11, 15, 16, 14, 18, 4], Try.func13, rfl, by decide, rfl, by kernel_rfl, by kernel_rfl⟩
end Go.Proofs.Ythohcimmoobaoaa
/- When a limit is kept, in numbers. No conditions. -/
namespace Go.Proofs.Ythohcimmoobaoaa
open Go.RowKit Lift

theorem keO_neg {x : SetS} {l : Int × Int} {n : Nat} : keO x l n < 0 ↔ ∀ t, t ≤ n → outL x l t = false := by
  rcases ixR_cases (outL x l) (n + 1) with ⟨e, hv⟩ | ⟨k, hk, e, hp, _⟩
  · have e' : keO x l n = -1 := e
    rw [e']
    exact ⟨fun _ t ht => hv t (by omega), fun _ => by omega⟩
  · have e' : keO x l n = k := e
    rw [e']
    refine ⟨fun h => by omega, fun h => ?_⟩
    rw [h k (by omega)] at hp; cases hp
theorem se_with {s : Slg} {b : Bx} {g g' l : Int × Int} {n : Int} (h : seE s b g n [] = 0) (hl : okS l = true) (h1 : -100 ≤ g'.1) (h2 : g'.1 ≤ g'.2) (h3 : g'.2 ≤ 100) : seE s b g' n [l] = 0 := by
  unfold seE at h
  split at h
  · rename_i e1
    split at h
    · rename_i e2
      split at h
      · rename_i e3
        have hg : okS g' = true := by simp only [okS, Bool.and_eq_true, decide_eq_true_eq]; omega
        have hn : nmB b g' n = true := by
          simp only [nmB, Bool.and_eq_true, decide_eq_true_eq] at e3 ⊢
          exact ⟨⟨e3.1.1, h1, h3⟩, e3.2⟩
        unfold seE
        rw [if_pos e1, if_pos ⟨e2.1, hg, by simp [hl]⟩, if_pos hn]
      · omega
    · omega
  · rename_i e1; exact absurd h e1
end Go.Proofs.Ythohcimmoobaoaa
/- The law of the gusts. No conditions. -/
set_option linter.unusedSimpArgs false
set_option linter.unusedVariables false
namespace Go.Proofs.Ythohcimmoobaoaa
open Go.RowKit Lift

def halfS (x : Int × Int) : Int × Int := (x.1 + (x.2 - x.1) / 2, x.2)
theorem halfS_in {x : Int × Int} (h : x.1 ≤ x.2) : x.1 ≤ (halfS x).1 ∧ (halfS x).1 ≤ (halfS x).2 ∧ (halfS x).2 = x.2 := by
  refine ⟨?_, ?_, rfl⟩ <;> simp only [halfS] <;> omega
theorem ke_half {s : Slg} {b : Bx} {g l : Int × Int} {n : Nat} (hx : OkX (mkS s b g)) (h : keO (mkS s b g) l n < 0) : keO (mkS s [halfS (lo b 0, hi b 0), halfS (lo b 1, hi b 1)] (halfS g)) l n < 0 := by
  rw [keO_neg] at h ⊢
  intro t ht
  have hp := h t ht
  have i0 := halfS_in (x := (lo b 0, hi b 0)) hx.a2
  have i1 := halfS_in (x := (lo b 1, hi b 1)) hx.v2
  have i2 := halfS_in (x := g) hx.g2
  have ms := most_sub (mkS s [halfS (lo b 0, hi b 0), halfS (lo b 1, hi b 1)] (halfS g)) (mkS s b g) t rfl (fun i => by
    show (spI (mkS s b g) i).1 ≤ _ ∧ _
    unfold spI mkS
    by_cases h0 : i = 0
    · rw [if_pos h0, if_pos h0]; exact ⟨i0.1, i0.2.1, Int.le_of_eq i0.2.2⟩
    · rw [if_neg h0, if_neg h0]
      by_cases h1 : i = 1
      · rw [if_pos h1, if_pos h1]; exact ⟨i1.1, i1.2.1, Int.le_of_eq i1.2.2⟩
      · rw [if_neg h1, if_neg h1]; exact ⟨i2.1, i2.2.1, Int.le_of_eq i2.2.2⟩)
  have q1 : (mkS s [halfS (lo b 0, hi b 0), halfS (lo b 1, hi b 1)] (halfS g)).s.den = (mkS s b g).s.den := rfl
  unfold outL at hp ⊢
  simp only [Bool.or_eq_false_iff, decide_eq_false_iff_not] at hp ⊢
  rw [q1]
  omega
set_option maxRecDepth 100000 in
set_option maxHeartbeats 1000000 in
theorem lawGust_ac (s : Slg) (x : Sts) (hx0 : StsOk x) : AC Try.prog 13 [slD s, stsD x] [] [] (dB true) := by
  obtain ⟨b, g, l, n⟩ := x
  refine klaw07_SlingGust.ac (n0 := 0) (by simp) ⟨in_agg3 _ _ _ _, stsD_in _ _, trivial⟩ trivial rfl ?_
  unfold claw07_SlingGust slD stsD
  have cs := rsets_ac s b g n
  have gu := gust_ac s b n l
  by_cases e : seE s b g n [] = 0
  case neg =>
    (have hg : (987654321 : Nat) - 987654321 = 0 := rfl; have hr := hg; repeat' (first | refine aw_seq ?_ | (refine aw_skip ?_; try simp only [thenQ, blockQ, if_true, if_false, Nat.reduceEqDiff, reduceCtorEq]) | (refine aw_exit ?_; try simp only [thenQ, blockQ, if_true, if_false, Nat.reduceEqDiff, reduceCtorEq]) | refine aw_ret ?_ | refine aw_block ?_ | refine aw_condT rfl ?_ | refine aw_condF rfl ?_ | (refine aw_cond rfl (fun hg => ?_) (fun hg => ?_) <;> (try (have hq := hg; simp only [Bool.not_eq_true', Bool.not_eq_false', Bool.and_eq_true, Bool.and_eq_false_iff, Bool.or_eq_true, Bool.or_eq_false_iff, decide_eq_true_eq, decide_eq_false_iff_not, bne_iff_ne, beq_iff_eq, beq_eq_false_iff_ne, bne_eq_false_iff_eq, ne_eq, Int.not_lt, Int.not_le, Decidable.not_not] at hq)) <;> (try (have hr := hg; simp only [decide_eq_true_eq, decide_eq_false_iff_not] at hr)) <;> (try (exfalso; omega))) | (refine ag_bool (fun hg => ?_) (fun hg => ?_) <;> (try (have hq := hg; simp only [Bool.not_eq_true', Bool.not_eq_false', Bool.and_eq_true, Bool.and_eq_false_iff, Bool.or_eq_true, Bool.or_eq_false_iff, decide_eq_true_eq, decide_eq_false_iff_not, bne_iff_ne, beq_iff_eq, beq_eq_false_iff_ne, bne_eq_false_iff_eq, ne_eq, Int.not_lt, Int.not_le, Decidable.not_not] at hq)) <;> (try (have hr := hg; simp only [decide_eq_true_eq, decide_eq_false_iff_not] at hr)) <;> (try (exfalso; omega)) <;> simp (config := {maxSteps := 10000000}) (disch := first | exact okYes (by kernel_rfl) | omega) only [ARun_nil, ARun_none, ARun_some, ARun_skip, AOpRun, AGo_f, AGo_ok, AG_tt, AG_ff, AG_tf, AG_ft, AG_un, aexec, run1, asI, elems, base, opt1, fillD, splice, abin, ash, isSh, foldI, mn2, mx2, ↓eget_h, eget_c, eget_n, eput_c, eput_n, putO, ↓hget_h, hget_c, hget_n, hput_c, hput_n, hdel_c, hdel_n, hups, cond_true, cond_false,  ups, St.F, St.app, FSt.ev, dropE_c, dropE_n, inL_c, inL_n, envOf, thenQ, blockQ, D.isBot, D.isAgg, D.cells, D.leaf, scalarEq, eqCells, isB, Option.map, List.map, List.length, List.all, List.append, List.take, List.drop, List.cons_append, List.nil_append, List.append_nil, Option.isSome, List.getElem?_cons_zero, List.getElem?_cons_succ, if_true, if_false, true_and, and_true, Bool.not_true, Bool.not_false, Bool.true_or, Bool.false_or, Bool.or_true, Bool.or_false, Bool.false_eq_true, ↓reduceIte, Nat.reduceAdd, Nat.reduceMul, Nat.reduceEqDiff, Nat.reduceBEq, Nat.reduceSub, Nat.zero_add, Nat.reduceLeDiff, Nat.reduceGT, Nat.reduceLT, Nat.reduceBNe, okLog_f, reduceCtorEq, or_self, or_false, false_or, or_true, true_or, and_self, and_false, false_and, not_true_eq_false, not_false_eq_true, ne_eq, Bool.and_true, Bool.true_and, Bool.and_false, Bool.false_and, decide_eq_true_eq, decide_true, decide_false, Int.reduceBEq, Int.reduceBNe, Int.reduceLT, Int.reduceLE, Int.reduceAdd, Int.reduceSub, Int.reduceMul, Int.reduceNeg, Int.reduceEq, Int.toNat_zero, Int.reduceToNat, Int.zero_lt_one, Nat.zero_le, Int.le_refl, beq_self_eq_true, bne_self_eq_false, cast_lit, fits, wrap_in, Int.toNat_natCast, Int.natCast_nonneg, dI, dB, hg, hr]) | ((first | refine aw_region ?_ | refine acall0 (cs) ?_ | refine acall0 (works_ac) ?_ | refine ago_if (by omega) ?_ | skip); simp (config := {maxSteps := 10000000}) (disch := first | exact okYes (by kernel_rfl) | omega) only [ARun_nil, ARun_none, ARun_some, ARun_skip, AOpRun, AGo_f, AGo_ok, AG_tt, AG_ff, AG_tf, AG_ft, AG_un, aexec, run1, asI, elems, base, opt1, fillD, splice, abin, ash, isSh, foldI, mn2, mx2, ↓eget_h, eget_c, eget_n, eput_c, eput_n, putO, ↓hget_h, hget_c, hget_n, hput_c, hput_n, hdel_c, hdel_n, hups, cond_true, cond_false,  ups, St.F, St.app, FSt.ev, dropE_c, dropE_n, inL_c, inL_n, envOf, thenQ, blockQ, D.isBot, D.isAgg, D.cells, D.leaf, scalarEq, eqCells, isB, Option.map, List.map, List.length, List.all, List.append, List.take, List.drop, List.cons_append, List.nil_append, List.append_nil, Option.isSome, List.getElem?_cons_zero, List.getElem?_cons_succ, if_true, if_false, true_and, and_true, Bool.not_true, Bool.not_false, Bool.true_or, Bool.false_or, Bool.or_true, Bool.or_false, Bool.false_eq_true, ↓reduceIte, Nat.reduceAdd, Nat.reduceMul, Nat.reduceEqDiff, Nat.reduceBEq, Nat.reduceSub, Nat.zero_add, Nat.reduceLeDiff, Nat.reduceGT, Nat.reduceLT, Nat.reduceBNe, okLog_f, reduceCtorEq, or_self, or_false, false_or, or_true, true_or, and_self, and_false, false_and, not_true_eq_false, not_false_eq_true, ne_eq, Bool.and_true, Bool.true_and, Bool.and_false, Bool.false_and, decide_eq_true_eq, decide_true, decide_false, Int.reduceBEq, Int.reduceBNe, Int.reduceLT, Int.reduceLE, Int.reduceAdd, Int.reduceSub, Int.reduceMul, Int.reduceNeg, Int.reduceEq, Int.toNat_zero, Int.reduceToNat, Int.zero_lt_one, Nat.zero_le, Int.le_refl, beq_self_eq_true, bne_self_eq_false, cast_lit, fits, wrap_in, Int.toNat_natCast, Int.natCast_nonneg, dI, dB, hg, hr])))
    all_goals (refine end_to [] [] (by first | exact .inl rfl | exact .inr rfl) rfl (by kernel_rfl) (by kernel_rfl) (by kernel_rfl) ?_ ?_ <;> repeat' (first | exact trivial | exact vrl_flat _ (by first | exact icells_in _ | exact rcells_in _ | exact scells_in _ | exact bcells_in _ | assumption) | exact vr_val _ | exact vr_list _ | exact vr_at _ | exact vr_nil | exact vr_cap0 | exact vr_vec _ _ _ _ rfl | exact vr_own _ _ _ _ _ rfl | exact vr_ptr _ _ _ rfl | exact vr_nilv _ _ _ rfl | exact vr_bot _ | exact vr_cap0v _ _ _ rfl | exact vr_cap0l | apply vr_agg | apply vr_tup | apply vr_fn | refine vr_yld _ _ _ rfl ?_ | exact Ren.bot _ | exact Ren.val _ | exact Ren.list _ | exact Ren.at_ _ | exact Ren.ptr _ _ _ rfl | refine Ren.yld _ _ _ _ _ rfl rfl (RenL.get ?_).2 (fun _ _ _ h => h) | refine vr_fl _ _ _ _ _ (by decide) rfl ?_ ?_ ?_ ?_ | refine And.intro ⟨_, rfl, .inl ⟨_, rfl, by decide, ?_⟩⟩ ?_ | refine And.intro ⟨_, rfl, _, rfl, by decide, ?_⟩ ?_ | refine And.intro ⟨_, rfl, .inr ⟨rfl, rfl, of_decide_eq_true (by kernel_rfl)⟩⟩ ?_ | apply And.intro | refine vr_valq ?_ | refine vr_listq ?_))
  obtain ⟨hx, hn, hb, _⟩ := seE_ok e
  by_cases hl : okS l = true
  case neg =>
    have e1 : guE s b n l = 10 := by
      have q : seE s b (0, 0) n [l] = 10 := by
        rw [seE_1]
        unfold seE at e
        split at e
        · rename_i e1
          rw [if_pos e1, if_neg (fun h => hl h.2.2)]
        · rename_i e1; exact absurd e e1
      unfold guE
      rw [q]; rfl
    (have hg : (987654321 : Nat) - 987654321 = 0 := rfl; have hr := hg; repeat' (first | refine aw_seq ?_ | (refine aw_skip ?_; try simp only [thenQ, blockQ, if_true, if_false, Nat.reduceEqDiff, reduceCtorEq]) | (refine aw_exit ?_; try simp only [thenQ, blockQ, if_true, if_false, Nat.reduceEqDiff, reduceCtorEq]) | refine aw_ret ?_ | refine aw_block ?_ | refine aw_condT rfl ?_ | refine aw_condF rfl ?_ | (refine aw_cond rfl (fun hg => ?_) (fun hg => ?_) <;> (try (have hq := hg; simp only [Bool.not_eq_true', Bool.not_eq_false', Bool.and_eq_true, Bool.and_eq_false_iff, Bool.or_eq_true, Bool.or_eq_false_iff, decide_eq_true_eq, decide_eq_false_iff_not, bne_iff_ne, beq_iff_eq, beq_eq_false_iff_ne, bne_eq_false_iff_eq, ne_eq, Int.not_lt, Int.not_le, Decidable.not_not] at hq)) <;> (try (have hr := hg; simp only [decide_eq_true_eq, decide_eq_false_iff_not] at hr)) <;> (try (exfalso; omega))) | (refine ag_bool (fun hg => ?_) (fun hg => ?_) <;> (try (have hq := hg; simp only [Bool.not_eq_true', Bool.not_eq_false', Bool.and_eq_true, Bool.and_eq_false_iff, Bool.or_eq_true, Bool.or_eq_false_iff, decide_eq_true_eq, decide_eq_false_iff_not, bne_iff_ne, beq_iff_eq, beq_eq_false_iff_ne, bne_eq_false_iff_eq, ne_eq, Int.not_lt, Int.not_le, Decidable.not_not] at hq)) <;> (try (have hr := hg; simp only [decide_eq_true_eq, decide_eq_false_iff_not] at hr)) <;> (try (exfalso; omega)) <;> simp (config := {maxSteps := 10000000}) (disch := first | exact okYes (by kernel_rfl) | omega) only [ARun_nil, ARun_none, ARun_some, ARun_skip, AOpRun, AGo_f, AGo_ok, AG_tt, AG_ff, AG_tf, AG_ft, AG_un, aexec, run1, asI, elems, base, opt1, fillD, splice, abin, ash, isSh, foldI, mn2, mx2, ↓eget_h, eget_c, eget_n, eput_c, eput_n, putO, ↓hget_h, hget_c, hget_n, hput_c, hput_n, hdel_c, hdel_n, hups, cond_true, cond_false,  ups, St.F, St.app, FSt.ev, dropE_c, dropE_n, inL_c, inL_n, envOf, thenQ, blockQ, D.isBot, D.isAgg, D.cells, D.leaf, scalarEq, eqCells, isB, Option.map, List.map, List.length, List.all, List.append, List.take, List.drop, List.cons_append, List.nil_append, List.append_nil, Option.isSome, List.getElem?_cons_zero, List.getElem?_cons_succ, if_true, if_false, true_and, and_true, Bool.not_true, Bool.not_false, Bool.true_or, Bool.false_or, Bool.or_true, Bool.or_false, Bool.false_eq_true, ↓reduceIte, Nat.reduceAdd, Nat.reduceMul, Nat.reduceEqDiff, Nat.reduceBEq, Nat.reduceSub, Nat.zero_add, Nat.reduceLeDiff, Nat.reduceGT, Nat.reduceLT, Nat.reduceBNe, okLog_f, reduceCtorEq, or_self, or_false, false_or, or_true, true_or, and_self, and_false, false_and, not_true_eq_false, not_false_eq_true, ne_eq, Bool.and_true, Bool.true_and, Bool.and_false, Bool.false_and, decide_eq_true_eq, decide_true, decide_false, Int.reduceBEq, Int.reduceBNe, Int.reduceLT, Int.reduceLE, Int.reduceAdd, Int.reduceSub, Int.reduceMul, Int.reduceNeg, Int.reduceEq, Int.toNat_zero, Int.reduceToNat, Int.zero_lt_one, Nat.zero_le, Int.le_refl, beq_self_eq_true, bne_self_eq_false, cast_lit, fits, wrap_in, Int.toNat_natCast, Int.natCast_nonneg, dI, dB, e, e1, hg, hr]) | ((first | refine aw_region ?_ | refine acall0 (cs) ?_ | refine acall0 (gu) ?_ | refine acall0 (works_ac) ?_ | refine ago_if (by omega) ?_ | skip); simp (config := {maxSteps := 10000000}) (disch := first | exact okYes (by kernel_rfl) | omega) only [ARun_nil, ARun_none, ARun_some, ARun_skip, AOpRun, AGo_f, AGo_ok, AG_tt, AG_ff, AG_tf, AG_ft, AG_un, aexec, run1, asI, elems, base, opt1, fillD, splice, abin, ash, isSh, foldI, mn2, mx2, ↓eget_h, eget_c, eget_n, eput_c, eput_n, putO, ↓hget_h, hget_c, hget_n, hput_c, hput_n, hdel_c, hdel_n, hups, cond_true, cond_false,  ups, St.F, St.app, FSt.ev, dropE_c, dropE_n, inL_c, inL_n, envOf, thenQ, blockQ, D.isBot, D.isAgg, D.cells, D.leaf, scalarEq, eqCells, isB, Option.map, List.map, List.length, List.all, List.append, List.take, List.drop, List.cons_append, List.nil_append, List.append_nil, Option.isSome, List.getElem?_cons_zero, List.getElem?_cons_succ, if_true, if_false, true_and, and_true, Bool.not_true, Bool.not_false, Bool.true_or, Bool.false_or, Bool.or_true, Bool.or_false, Bool.false_eq_true, ↓reduceIte, Nat.reduceAdd, Nat.reduceMul, Nat.reduceEqDiff, Nat.reduceBEq, Nat.reduceSub, Nat.zero_add, Nat.reduceLeDiff, Nat.reduceGT, Nat.reduceLT, Nat.reduceBNe, okLog_f, reduceCtorEq, or_self, or_false, false_or, or_true, true_or, and_self, and_false, false_and, not_true_eq_false, not_false_eq_true, ne_eq, Bool.and_true, Bool.true_and, Bool.and_false, Bool.false_and, decide_eq_true_eq, decide_true, decide_false, Int.reduceBEq, Int.reduceBNe, Int.reduceLT, Int.reduceLE, Int.reduceAdd, Int.reduceSub, Int.reduceMul, Int.reduceNeg, Int.reduceEq, Int.toNat_zero, Int.reduceToNat, Int.zero_lt_one, Nat.zero_le, Int.le_refl, beq_self_eq_true, bne_self_eq_false, cast_lit, fits, wrap_in, Int.toNat_natCast, Int.natCast_nonneg, dI, dB, e, e1, hg, hr])))
    all_goals (refine end_to [] [] (by first | exact .inl rfl | exact .inr rfl) rfl (by kernel_rfl) (by kernel_rfl) (by kernel_rfl) ?_ ?_ <;> repeat' (first | exact trivial | exact vrl_flat _ (by first | exact icells_in _ | exact rcells_in _ | exact scells_in _ | exact bcells_in _ | assumption) | exact vr_val _ | exact vr_list _ | exact vr_at _ | exact vr_nil | exact vr_cap0 | exact vr_vec _ _ _ _ rfl | exact vr_own _ _ _ _ _ rfl | exact vr_ptr _ _ _ rfl | exact vr_nilv _ _ _ rfl | exact vr_bot _ | exact vr_cap0v _ _ _ rfl | exact vr_cap0l | apply vr_agg | apply vr_tup | apply vr_fn | refine vr_yld _ _ _ rfl ?_ | exact Ren.bot _ | exact Ren.val _ | exact Ren.list _ | exact Ren.at_ _ | exact Ren.ptr _ _ _ rfl | refine Ren.yld _ _ _ _ _ rfl rfl (RenL.get ?_).2 (fun _ _ _ h => h) | refine vr_fl _ _ _ _ _ (by decide) rfl ?_ ?_ ?_ ?_ | refine And.intro ⟨_, rfl, .inl ⟨_, rfl, by decide, ?_⟩⟩ ?_ | refine And.intro ⟨_, rfl, _, rfl, by decide, ?_⟩ ?_ | refine And.intro ⟨_, rfl, .inr ⟨rfl, rfl, of_decide_eq_true (by kernel_rfl)⟩⟩ ?_ | apply And.intro | refine vr_valq ?_ | refine vr_listq ?_))
  obtain ⟨m, rfl⟩ : ∃ m : Nat, n = m := ⟨n.toNat, by omega⟩
  have hm : m ≤ 16 := by omega
  have z0 := se_with (g' := (0, 0)) e hl (by simp) (by simp) (by simp)
  have eE : guE s b m l = if guK s b m l < 0 then 3 else 0 := if_pos z0
  have eV : guV s b m l = if guK s b m l < 0 then 0 else 100 - guK s b m l := if_pos z0
  have kk : ∀ g', seE s b g' m [l] = 0 → keB s b g' m l = decide (keO (mkS s b g') l m < 0) := fun g' h => if_pos h
  have k1 := skeeps_ac s b g m l
  have zg : seE s b g m [l] = 0 := se_with (g' := g) e hl hx.g1 hx.g2 hx.g3
  rw [zg, kk g zg] at k1
  have a1 := hx.a1; have a2 := hx.a2; have a3 := hx.a3; have v1 := hx.v1; have v2 := hx.v2; have v3 := hx.v3; have c1 := hx.g1; have c2 := hx.g2; have c3 := hx.g3
  simp only [mkS] at a1 a2 a3 v1 v2 v3 c1 c2 c3
  have bl : b.length = 2 := by rw [hb]; rfl
  have g0 := sps_gd b 0 (by omega)
  have g1 := sps_gd b 1 (by omega)
  have h0 : AC Try.prog 34 [spD (lo b 0, hi b 0)] [] [] (spD (halfS (lo b 0, hi b 0))) := half_ac (lo b 0, hi b 0) (by simp only; omega) a2 (by simp only; omega)
  have h1 : AC Try.prog 34 [spD (lo b 1, hi b 1)] [] [] (spD (halfS (lo b 1, hi b 1))) := half_ac (lo b 1, hi b 1) (by simp only; omega) v2 (by simp only; omega)
  have h2 : AC Try.prog 34 [spD g] [] [] (spD (halfS g)) := half_ac g (by omega) c2 (by omega)
  have i0 := halfS_in (x := (lo b 0, hi b 0)) a2
  have i1 := halfS_in (x := (lo b 1, hi b 1)) v2
  have i2 := halfS_in (x := g) c2
  have q0 : (lo b 0, hi b 0).1 = lo b 0 ∧ (lo b 0, hi b 0).2 = hi b 0 := ⟨rfl, rfl⟩
  have q1 : (lo b 1, hi b 1).1 = lo b 1 ∧ (lo b 1, hi b 1).2 = hi b 1 := ⟨rfl, rfl⟩
  rw [q0.1, q0.2] at i0
  rw [q1.1, q1.2] at i1
  have seS : seE s [halfS (lo b 0, hi b 0), halfS (lo b 1, hi b 1)] (halfS g) m [l] = 0 := by
    rw [seE_1]
    have e1 : slE s = 0 := by
      unfold seE at e
      split at e
      · assumption
      · rename_i e1; exact absurd e e1
    have o0 : okS (halfS (lo b 0, hi b 0)) = true := by simp only [okS, Bool.and_eq_true, decide_eq_true_eq]; omega
    have o1 : okS (halfS (lo b 1, hi b 1)) = true := by simp only [okS, Bool.and_eq_true, decide_eq_true_eq]; omega
    have o2 : okS (halfS g) = true := by simp only [okS, Bool.and_eq_true, decide_eq_true_eq]; omega
    have bx : boxE [halfS (lo b 0, hi b 0), halfS (lo b 1, hi b 1)] = 0 := if_pos ⟨Nat.le_of_ble_eq_true rfl, Nat.le_of_ble_eq_true rfl, by simp only [List.all_cons, List.all_nil, o0, o1]; rfl⟩
    have nm : nmB [halfS (lo b 0, hi b 0), halfS (lo b 1, hi b 1)] (halfS g) m = true := by
      have w : wI (m : Int) 0 16 = true := by unfold wI; simp; omega
      have l0 : lo [halfS (lo b 0, hi b 0), halfS (lo b 1, hi b 1)] 0 = (halfS (lo b 0, hi b 0)).1 ∧ hi [halfS (lo b 0, hi b 0), halfS (lo b 1, hi b 1)] 0 = (halfS (lo b 0, hi b 0)).2 := ⟨rfl, rfl⟩
      have l1 : lo [halfS (lo b 0, hi b 0), halfS (lo b 1, hi b 1)] 1 = (halfS (lo b 1, hi b 1)).1 ∧ hi [halfS (lo b 0, hi b 0), halfS (lo b 1, hi b 1)] 1 = (halfS (lo b 1, hi b 1)).2 := ⟨rfl, rfl⟩
      unfold nmB
      rw [l0.1, l0.2, l1.1, l1.2, w]
      simp only [Bool.and_eq_true, decide_eq_true_eq, Bool.and_true, List.length_cons, List.length_nil]
      repeat' (first | exact trivial | omega | rfl | apply And.intro)
    rw [if_pos e1, if_pos ⟨bx, o2, hl⟩, if_pos nm]
  have k2 := skeeps_ac s [halfS (lo b 0, hi b 0), halfS (lo b 1, hi b 1)] (halfS g) m l
  have kS : keB s [halfS (lo b 0, hi b 0), halfS (lo b 1, hi b 1)] (halfS g) m l = decide (keO (mkS s [halfS (lo b 0, hi b 0), halfS (lo b 1, hi b 1)] (halfS g)) l m < 0) := if_pos seS
  rw [seS, kS] at k2
  have mono : keO (mkS s b g) l m < 0 → keO (mkS s [halfS (lo b 0, hi b 0), halfS (lo b 1, hi b 1)] (halfS g)) l m < 0 := ke_half hx
  generalize hO1 : keO (mkS s b g) l m = O1 at *
  generalize hO2 : keO (mkS s [halfS (lo b 0, hi b 0), halfS (lo b 1, hi b 1)] (halfS g)) l m = O2 at *
  have flat3 : ∀ (u : Int) (c : Bool) (v : Int), Flat (.tup [dI u, dB c, dI v]) := fun u c v => .tup _ (by intro d hd; simp at hd; rcases hd with rfl | rfl | rfl <;> exact .val _)
  have sp4 : ∀ d ∈ [dI (halfS (lo b 0, hi b 0)).1, dI (halfS (lo b 0, hi b 0)).2, dI (halfS (lo b 1, hi b 1)).1, dI (halfS (lo b 1, hi b 1)).2], In (fun _ => False) d := by
    intro d hd; simp at hd; rcases hd with rfl | rfl | rfl | rfl <;> exact .val _
  rcases ixR_cases (gusP s b m l) 101 with ⟨eK, hv⟩ | ⟨k, hk, eK, hp, hv⟩
  · have eK' : guK s b m l = -1 := eK
    rw [eK', if_pos (by omega)] at eE eV
    have hz := hv 100 (by omega)
    have hz2 : keO (mkS s b (0, 0)) l m < 0 ↔ False := by
      unfold gusP gusX at hz
      have := of_decide_eq_false hz
      rw [Int.toNat_natCast] at this
      simpa using this
    have kz := skeeps_ac s b (0, 0) m l
    rw [z0, kk (0, 0) z0, decide_eq_false (fun h => hz2.1 h)] at kz
    (have hg : (987654321 : Nat) - 987654321 = 0 := rfl; have hr := hg; repeat' (first | refine aw_seq ?_ | (refine aw_skip ?_; try simp only [thenQ, blockQ, if_true, if_false, Nat.reduceEqDiff, reduceCtorEq]) | (refine aw_exit ?_; try simp only [thenQ, blockQ, if_true, if_false, Nat.reduceEqDiff, reduceCtorEq]) | refine aw_ret ?_ | refine aw_block ?_ | refine aw_condT rfl ?_ | refine aw_condF rfl ?_ | (refine aw_cond rfl (fun hg => ?_) (fun hg => ?_) <;> (try (have hq := hg; simp only [Bool.not_eq_true', Bool.not_eq_false', Bool.and_eq_true, Bool.and_eq_false_iff, Bool.or_eq_true, Bool.or_eq_false_iff, decide_eq_true_eq, decide_eq_false_iff_not, bne_iff_ne, beq_iff_eq, beq_eq_false_iff_ne, bne_eq_false_iff_eq, ne_eq, Int.not_lt, Int.not_le, Decidable.not_not] at hq)) <;> (try (have hr := hg; simp only [decide_eq_true_eq, decide_eq_false_iff_not] at hr)) <;> (try (exfalso; omega))) | (refine ag_bool (fun hg => ?_) (fun hg => ?_) <;> (try (have hq := hg; simp only [Bool.not_eq_true', Bool.not_eq_false', Bool.and_eq_true, Bool.and_eq_false_iff, Bool.or_eq_true, Bool.or_eq_false_iff, decide_eq_true_eq, decide_eq_false_iff_not, bne_iff_ne, beq_iff_eq, beq_eq_false_iff_ne, bne_eq_false_iff_eq, ne_eq, Int.not_lt, Int.not_le, Decidable.not_not] at hq)) <;> (try (have hr := hg; simp only [decide_eq_true_eq, decide_eq_false_iff_not] at hr)) <;> (try (exfalso; omega)) <;> simp (config := {maxSteps := 10000000}) (disch := first | exact okYes (by kernel_rfl) | omega) only [ARun_nil, ARun_none, ARun_some, ARun_skip, AOpRun, AGo_f, AGo_ok, AG_tt, AG_ff, AG_tf, AG_ft, AG_un, aexec, run1, asI, elems, base, opt1, fillD, splice, abin, ash, isSh, foldI, mn2, mx2, ↓eget_h, eget_c, eget_n, eput_c, eput_n, putO, ↓hget_h, hget_c, hget_n, hput_c, hput_n, hdel_c, hdel_n, hups, cond_true, cond_false,  ups, St.F, St.app, FSt.ev, dropE_c, dropE_n, inL_c, inL_n, envOf, thenQ, blockQ, D.isBot, D.isAgg, D.cells, D.leaf, scalarEq, eqCells, isB, Option.map, List.map, List.length, List.all, List.append, List.take, List.drop, List.cons_append, List.nil_append, List.append_nil, Option.isSome, List.getElem?_cons_zero, List.getElem?_cons_succ, if_true, if_false, true_and, and_true, Bool.not_true, Bool.not_false, Bool.true_or, Bool.false_or, Bool.or_true, Bool.or_false, Bool.false_eq_true, ↓reduceIte, Nat.reduceAdd, Nat.reduceMul, Nat.reduceEqDiff, Nat.reduceBEq, Nat.reduceSub, Nat.zero_add, Nat.reduceLeDiff, Nat.reduceGT, Nat.reduceLT, Nat.reduceBNe, okLog_f, reduceCtorEq, or_self, or_false, false_or, or_true, true_or, and_self, and_false, false_and, not_true_eq_false, not_false_eq_true, ne_eq, Bool.and_true, Bool.true_and, Bool.and_false, Bool.false_and, decide_eq_true_eq, decide_true, decide_false, Int.reduceBEq, Int.reduceBNe, Int.reduceLT, Int.reduceLE, Int.reduceAdd, Int.reduceSub, Int.reduceMul, Int.reduceNeg, Int.reduceEq, Int.toNat_zero, Int.reduceToNat, Int.zero_lt_one, Nat.zero_le, Int.le_refl, beq_self_eq_true, bne_self_eq_false, cast_lit, fits, wrap_in, Int.toNat_natCast, Int.natCast_nonneg, dI, dB, e, eE, eV, sps_all, sps_len, g0, g1, spD, hg, hr]) | ((first | refine aw_region ?_ | refine acall0 (cs) ?_ | refine acall0 (gu) ?_ | refine acall0 (kz) ?_ | refine acall0 (k1) ?_ | refine acall0 (h0) ?_ | refine acall0 (h1) ?_ | refine acall0 (h2) ?_ | refine acall0 (works_ac) ?_ | refine ago_if (by omega) ?_ | skip); simp (config := {maxSteps := 10000000}) (disch := first | exact okYes (by kernel_rfl) | omega) only [ARun_nil, ARun_none, ARun_some, ARun_skip, AOpRun, AGo_f, AGo_ok, AG_tt, AG_ff, AG_tf, AG_ft, AG_un, aexec, run1, asI, elems, base, opt1, fillD, splice, abin, ash, isSh, foldI, mn2, mx2, ↓eget_h, eget_c, eget_n, eput_c, eput_n, putO, ↓hget_h, hget_c, hget_n, hput_c, hput_n, hdel_c, hdel_n, hups, cond_true, cond_false,  ups, St.F, St.app, FSt.ev, dropE_c, dropE_n, inL_c, inL_n, envOf, thenQ, blockQ, D.isBot, D.isAgg, D.cells, D.leaf, scalarEq, eqCells, isB, Option.map, List.map, List.length, List.all, List.append, List.take, List.drop, List.cons_append, List.nil_append, List.append_nil, Option.isSome, List.getElem?_cons_zero, List.getElem?_cons_succ, if_true, if_false, true_and, and_true, Bool.not_true, Bool.not_false, Bool.true_or, Bool.false_or, Bool.or_true, Bool.or_false, Bool.false_eq_true, ↓reduceIte, Nat.reduceAdd, Nat.reduceMul, Nat.reduceEqDiff, Nat.reduceBEq, Nat.reduceSub, Nat.zero_add, Nat.reduceLeDiff, Nat.reduceGT, Nat.reduceLT, Nat.reduceBNe, okLog_f, reduceCtorEq, or_self, or_false, false_or, or_true, true_or, and_self, and_false, false_and, not_true_eq_false, not_false_eq_true, ne_eq, Bool.and_true, Bool.true_and, Bool.and_false, Bool.false_and, decide_eq_true_eq, decide_true, decide_false, Int.reduceBEq, Int.reduceBNe, Int.reduceLT, Int.reduceLE, Int.reduceAdd, Int.reduceSub, Int.reduceMul, Int.reduceNeg, Int.reduceEq, Int.toNat_zero, Int.reduceToNat, Int.zero_lt_one, Nat.zero_le, Int.le_refl, beq_self_eq_true, bne_self_eq_false, cast_lit, fits, wrap_in, Int.toNat_natCast, Int.natCast_nonneg, dI, dB, e, eE, eV, sps_all, sps_len, g0, g1, spD, hg, hr])))
    refine acallV25 k2 (flat3 _ _ _) rfl (sps_two _) rfl rfl sp4 (by kernel_rfl) ?_
    (have hg : (987654321 : Nat) - 987654321 = 0 := rfl; have hr := hg; repeat' (first | refine aw_seq ?_ | (refine aw_skip ?_; try simp only [thenQ, blockQ, if_true, if_false, Nat.reduceEqDiff, reduceCtorEq]) | (refine aw_exit ?_; try simp only [thenQ, blockQ, if_true, if_false, Nat.reduceEqDiff, reduceCtorEq]) | refine aw_ret ?_ | refine aw_block ?_ | refine aw_condT rfl ?_ | refine aw_condF rfl ?_ | (refine aw_cond rfl (fun hg => ?_) (fun hg => ?_) <;> (try (have hq := hg; simp only [Bool.not_eq_true', Bool.not_eq_false', Bool.and_eq_true, Bool.and_eq_false_iff, Bool.or_eq_true, Bool.or_eq_false_iff, decide_eq_true_eq, decide_eq_false_iff_not, bne_iff_ne, beq_iff_eq, beq_eq_false_iff_ne, bne_eq_false_iff_eq, ne_eq, Int.not_lt, Int.not_le, Decidable.not_not] at hq)) <;> (try (have hr := hg; simp only [decide_eq_true_eq, decide_eq_false_iff_not] at hr)) <;> (try (exfalso; omega))) | (refine ag_bool (fun hg => ?_) (fun hg => ?_) <;> (try (have hq := hg; simp only [Bool.not_eq_true', Bool.not_eq_false', Bool.and_eq_true, Bool.and_eq_false_iff, Bool.or_eq_true, Bool.or_eq_false_iff, decide_eq_true_eq, decide_eq_false_iff_not, bne_iff_ne, beq_iff_eq, beq_eq_false_iff_ne, bne_eq_false_iff_eq, ne_eq, Int.not_lt, Int.not_le, Decidable.not_not] at hq)) <;> (try (have hr := hg; simp only [decide_eq_true_eq, decide_eq_false_iff_not] at hr)) <;> (try (exfalso; omega)) <;> simp (config := {maxSteps := 10000000}) (disch := first | exact okYes (by kernel_rfl) | omega) only [ARun_nil, ARun_none, ARun_some, ARun_skip, AOpRun, AGo_f, AGo_ok, AG_tt, AG_ff, AG_tf, AG_ft, AG_un, aexec, run1, asI, elems, base, opt1, fillD, splice, abin, ash, isSh, foldI, mn2, mx2, ↓eget_h, eget_c, eget_n, eput_c, eput_n, putO, ↓hget_h, hget_c, hget_n, hput_c, hput_n, hdel_c, hdel_n, hups, cond_true, cond_false,  ups, St.F, St.app, FSt.ev, dropE_c, dropE_n, inL_c, inL_n, envOf, thenQ, blockQ, D.isBot, D.isAgg, D.cells, D.leaf, scalarEq, eqCells, isB, Option.map, List.map, List.length, List.all, List.append, List.take, List.drop, List.cons_append, List.nil_append, List.append_nil, Option.isSome, List.getElem?_cons_zero, List.getElem?_cons_succ, if_true, if_false, true_and, and_true, Bool.not_true, Bool.not_false, Bool.true_or, Bool.false_or, Bool.or_true, Bool.or_false, Bool.false_eq_true, ↓reduceIte, Nat.reduceAdd, Nat.reduceMul, Nat.reduceEqDiff, Nat.reduceBEq, Nat.reduceSub, Nat.zero_add, Nat.reduceLeDiff, Nat.reduceGT, Nat.reduceLT, Nat.reduceBNe, okLog_f, reduceCtorEq, or_self, or_false, false_or, or_true, true_or, and_self, and_false, false_and, not_true_eq_false, not_false_eq_true, ne_eq, Bool.and_true, Bool.true_and, Bool.and_false, Bool.false_and, decide_eq_true_eq, decide_true, decide_false, Int.reduceBEq, Int.reduceBNe, Int.reduceLT, Int.reduceLE, Int.reduceAdd, Int.reduceSub, Int.reduceMul, Int.reduceNeg, Int.reduceEq, Int.toNat_zero, Int.reduceToNat, Int.zero_lt_one, Nat.zero_le, Int.le_refl, beq_self_eq_true, bne_self_eq_false, cast_lit, fits, wrap_in, Int.toNat_natCast, Int.natCast_nonneg, dI, dB, hg, hr]) | ((first | refine aw_region ?_ | refine acall0 (works_ac) ?_ | refine ago_if (by omega) ?_ | skip); simp (config := {maxSteps := 10000000}) (disch := first | exact okYes (by kernel_rfl) | omega) only [ARun_nil, ARun_none, ARun_some, ARun_skip, AOpRun, AGo_f, AGo_ok, AG_tt, AG_ff, AG_tf, AG_ft, AG_un, aexec, run1, asI, elems, base, opt1, fillD, splice, abin, ash, isSh, foldI, mn2, mx2, ↓eget_h, eget_c, eget_n, eput_c, eput_n, putO, ↓hget_h, hget_c, hget_n, hput_c, hput_n, hdel_c, hdel_n, hups, cond_true, cond_false,  ups, St.F, St.app, FSt.ev, dropE_c, dropE_n, inL_c, inL_n, envOf, thenQ, blockQ, D.isBot, D.isAgg, D.cells, D.leaf, scalarEq, eqCells, isB, Option.map, List.map, List.length, List.all, List.append, List.take, List.drop, List.cons_append, List.nil_append, List.append_nil, Option.isSome, List.getElem?_cons_zero, List.getElem?_cons_succ, if_true, if_false, true_and, and_true, Bool.not_true, Bool.not_false, Bool.true_or, Bool.false_or, Bool.or_true, Bool.or_false, Bool.false_eq_true, ↓reduceIte, Nat.reduceAdd, Nat.reduceMul, Nat.reduceEqDiff, Nat.reduceBEq, Nat.reduceSub, Nat.zero_add, Nat.reduceLeDiff, Nat.reduceGT, Nat.reduceLT, Nat.reduceBNe, okLog_f, reduceCtorEq, or_self, or_false, false_or, or_true, true_or, and_self, and_false, false_and, not_true_eq_false, not_false_eq_true, ne_eq, Bool.and_true, Bool.true_and, Bool.and_false, Bool.false_and, decide_eq_true_eq, decide_true, decide_false, Int.reduceBEq, Int.reduceBNe, Int.reduceLT, Int.reduceLE, Int.reduceAdd, Int.reduceSub, Int.reduceMul, Int.reduceNeg, Int.reduceEq, Int.toNat_zero, Int.reduceToNat, Int.zero_lt_one, Nat.zero_le, Int.le_refl, beq_self_eq_true, bne_self_eq_false, cast_lit, fits, wrap_in, Int.toNat_natCast, Int.natCast_nonneg, dI, dB, hg, hr])))
    all_goals (refine end_to [] [] (by first | exact .inl rfl | exact .inr rfl) rfl (by kernel_rfl) (by kernel_rfl) (by kernel_rfl) ?_ ?_ <;> repeat' (first | exact trivial | exact vrl_flat _ (by first | exact icells_in _ | exact rcells_in _ | exact scells_in _ | exact bcells_in _ | assumption) | exact vr_val _ | exact vr_list _ | exact vr_at _ | exact vr_nil | exact vr_cap0 | exact vr_vec _ _ _ _ rfl | exact vr_own _ _ _ _ _ rfl | exact vr_ptr _ _ _ rfl | exact vr_nilv _ _ _ rfl | exact vr_bot _ | exact vr_cap0v _ _ _ rfl | exact vr_cap0l | apply vr_agg | apply vr_tup | apply vr_fn | refine vr_yld _ _ _ rfl ?_ | exact Ren.bot _ | exact Ren.val _ | exact Ren.list _ | exact Ren.at_ _ | exact Ren.ptr _ _ _ rfl | refine Ren.yld _ _ _ _ _ rfl rfl (RenL.get ?_).2 (fun _ _ _ h => h) | refine vr_fl _ _ _ _ _ (by decide) rfl ?_ ?_ ?_ ?_ | refine And.intro ⟨_, rfl, .inl ⟨_, rfl, by decide, ?_⟩⟩ ?_ | refine And.intro ⟨_, rfl, _, rfl, by decide, ?_⟩ ?_ | refine And.intro ⟨_, rfl, .inr ⟨rfl, rfl, of_decide_eq_true (by kernel_rfl)⟩⟩ ?_ | apply And.intro | refine vr_valq ?_ | refine vr_listq ?_))
  · have eK' : guK s b m l = k := eK
    rw [eK', if_neg (by omega)] at eE eV
    have sk := se_with (g' := (-(100 - (k : Int)), 100 - k)) e hl (by simp only; omega) (by simp only; omega) (by simp only; omega)
    have hp2 : keO (mkS s b (-(100 - (k : Int)), 100 - k)) l m < 0 := by
      have := of_decide_eq_true hp
      rw [Int.toNat_natCast] at this
      exact this
    have kz := skeeps_ac s b (-(100 - (k : Int)), 100 - k) m l
    rw [sk, kk _ sk, decide_eq_true hp2] at kz
    by_cases hk0 : k = 0
    · (have hg : (987654321 : Nat) - 987654321 = 0 := rfl; have hr := hg; repeat' (first | refine aw_seq ?_ | (refine aw_skip ?_; try simp only [thenQ, blockQ, if_true, if_false, Nat.reduceEqDiff, reduceCtorEq]) | (refine aw_exit ?_; try simp only [thenQ, blockQ, if_true, if_false, Nat.reduceEqDiff, reduceCtorEq]) | refine aw_ret ?_ | refine aw_block ?_ | refine aw_condT rfl ?_ | refine aw_condF rfl ?_ | (refine aw_cond rfl (fun hg => ?_) (fun hg => ?_) <;> (try (have hq := hg; simp only [Bool.not_eq_true', Bool.not_eq_false', Bool.and_eq_true, Bool.and_eq_false_iff, Bool.or_eq_true, Bool.or_eq_false_iff, decide_eq_true_eq, decide_eq_false_iff_not, bne_iff_ne, beq_iff_eq, beq_eq_false_iff_ne, bne_eq_false_iff_eq, ne_eq, Int.not_lt, Int.not_le, Decidable.not_not] at hq)) <;> (try (have hr := hg; simp only [decide_eq_true_eq, decide_eq_false_iff_not] at hr)) <;> (try (exfalso; omega))) | (refine ag_bool (fun hg => ?_) (fun hg => ?_) <;> (try (have hq := hg; simp only [Bool.not_eq_true', Bool.not_eq_false', Bool.and_eq_true, Bool.and_eq_false_iff, Bool.or_eq_true, Bool.or_eq_false_iff, decide_eq_true_eq, decide_eq_false_iff_not, bne_iff_ne, beq_iff_eq, beq_eq_false_iff_ne, bne_eq_false_iff_eq, ne_eq, Int.not_lt, Int.not_le, Decidable.not_not] at hq)) <;> (try (have hr := hg; simp only [decide_eq_true_eq, decide_eq_false_iff_not] at hr)) <;> (try (exfalso; omega)) <;> simp (config := {maxSteps := 10000000}) (disch := first | exact okYes (by kernel_rfl) | omega) only [ARun_nil, ARun_none, ARun_some, ARun_skip, AOpRun, AGo_f, AGo_ok, AG_tt, AG_ff, AG_tf, AG_ft, AG_un, aexec, run1, asI, elems, base, opt1, fillD, splice, abin, ash, isSh, foldI, mn2, mx2, ↓eget_h, eget_c, eget_n, eput_c, eput_n, putO, ↓hget_h, hget_c, hget_n, hput_c, hput_n, hdel_c, hdel_n, hups, cond_true, cond_false,  ups, St.F, St.app, FSt.ev, dropE_c, dropE_n, inL_c, inL_n, envOf, thenQ, blockQ, D.isBot, D.isAgg, D.cells, D.leaf, scalarEq, eqCells, isB, Option.map, List.map, List.length, List.all, List.append, List.take, List.drop, List.cons_append, List.nil_append, List.append_nil, Option.isSome, List.getElem?_cons_zero, List.getElem?_cons_succ, if_true, if_false, true_and, and_true, Bool.not_true, Bool.not_false, Bool.true_or, Bool.false_or, Bool.or_true, Bool.or_false, Bool.false_eq_true, ↓reduceIte, Nat.reduceAdd, Nat.reduceMul, Nat.reduceEqDiff, Nat.reduceBEq, Nat.reduceSub, Nat.zero_add, Nat.reduceLeDiff, Nat.reduceGT, Nat.reduceLT, Nat.reduceBNe, okLog_f, reduceCtorEq, or_self, or_false, false_or, or_true, true_or, and_self, and_false, false_and, not_true_eq_false, not_false_eq_true, ne_eq, Bool.and_true, Bool.true_and, Bool.and_false, Bool.false_and, decide_eq_true_eq, decide_true, decide_false, Int.reduceBEq, Int.reduceBNe, Int.reduceLT, Int.reduceLE, Int.reduceAdd, Int.reduceSub, Int.reduceMul, Int.reduceNeg, Int.reduceEq, Int.toNat_zero, Int.reduceToNat, Int.zero_lt_one, Nat.zero_le, Int.le_refl, beq_self_eq_true, bne_self_eq_false, cast_lit, fits, wrap_in, Int.toNat_natCast, Int.natCast_nonneg, dI, dB, e, eE, eV, sps_all, sps_len, g0, g1, spD, Int.zero_sub, hg, hr]) | ((first | refine aw_region ?_ | refine acall0 (cs) ?_ | refine acall0 (gu) ?_ | refine acall0 (kz) ?_ | refine acall0 (k1) ?_ | refine acall0 (h0) ?_ | refine acall0 (h1) ?_ | refine acall0 (h2) ?_ | refine acall0 (works_ac) ?_ | refine ago_if (by omega) ?_ | skip); simp (config := {maxSteps := 10000000}) (disch := first | exact okYes (by kernel_rfl) | omega) only [ARun_nil, ARun_none, ARun_some, ARun_skip, AOpRun, AGo_f, AGo_ok, AG_tt, AG_ff, AG_tf, AG_ft, AG_un, aexec, run1, asI, elems, base, opt1, fillD, splice, abin, ash, isSh, foldI, mn2, mx2, ↓eget_h, eget_c, eget_n, eput_c, eput_n, putO, ↓hget_h, hget_c, hget_n, hput_c, hput_n, hdel_c, hdel_n, hups, cond_true, cond_false,  ups, St.F, St.app, FSt.ev, dropE_c, dropE_n, inL_c, inL_n, envOf, thenQ, blockQ, D.isBot, D.isAgg, D.cells, D.leaf, scalarEq, eqCells, isB, Option.map, List.map, List.length, List.all, List.append, List.take, List.drop, List.cons_append, List.nil_append, List.append_nil, Option.isSome, List.getElem?_cons_zero, List.getElem?_cons_succ, if_true, if_false, true_and, and_true, Bool.not_true, Bool.not_false, Bool.true_or, Bool.false_or, Bool.or_true, Bool.or_false, Bool.false_eq_true, ↓reduceIte, Nat.reduceAdd, Nat.reduceMul, Nat.reduceEqDiff, Nat.reduceBEq, Nat.reduceSub, Nat.zero_add, Nat.reduceLeDiff, Nat.reduceGT, Nat.reduceLT, Nat.reduceBNe, okLog_f, reduceCtorEq, or_self, or_false, false_or, or_true, true_or, and_self, and_false, false_and, not_true_eq_false, not_false_eq_true, ne_eq, Bool.and_true, Bool.true_and, Bool.and_false, Bool.false_and, decide_eq_true_eq, decide_true, decide_false, Int.reduceBEq, Int.reduceBNe, Int.reduceLT, Int.reduceLE, Int.reduceAdd, Int.reduceSub, Int.reduceMul, Int.reduceNeg, Int.reduceEq, Int.toNat_zero, Int.reduceToNat, Int.zero_lt_one, Nat.zero_le, Int.le_refl, beq_self_eq_true, bne_self_eq_false, cast_lit, fits, wrap_in, Int.toNat_natCast, Int.natCast_nonneg, dI, dB, e, eE, eV, sps_all, sps_len, g0, g1, spD, Int.zero_sub, hg, hr])))
      refine acallV25 k2 (flat3 _ _ _) rfl (sps_two _) rfl rfl sp4 (by kernel_rfl) ?_
      (have hg : (987654321 : Nat) - 987654321 = 0 := rfl; have hr := hg; repeat' (first | refine aw_seq ?_ | (refine aw_skip ?_; try simp only [thenQ, blockQ, if_true, if_false, Nat.reduceEqDiff, reduceCtorEq]) | (refine aw_exit ?_; try simp only [thenQ, blockQ, if_true, if_false, Nat.reduceEqDiff, reduceCtorEq]) | refine aw_ret ?_ | refine aw_block ?_ | refine aw_condT rfl ?_ | refine aw_condF rfl ?_ | (refine aw_cond rfl (fun hg => ?_) (fun hg => ?_) <;> (try (have hq := hg; simp only [Bool.not_eq_true', Bool.not_eq_false', Bool.and_eq_true, Bool.and_eq_false_iff, Bool.or_eq_true, Bool.or_eq_false_iff, decide_eq_true_eq, decide_eq_false_iff_not, bne_iff_ne, beq_iff_eq, beq_eq_false_iff_ne, bne_eq_false_iff_eq, ne_eq, Int.not_lt, Int.not_le, Decidable.not_not] at hq)) <;> (try (have hr := hg; simp only [decide_eq_true_eq, decide_eq_false_iff_not] at hr)) <;> (try (exfalso; omega))) | (refine ag_bool (fun hg => ?_) (fun hg => ?_) <;> (try (have hq := hg; simp only [Bool.not_eq_true', Bool.not_eq_false', Bool.and_eq_true, Bool.and_eq_false_iff, Bool.or_eq_true, Bool.or_eq_false_iff, decide_eq_true_eq, decide_eq_false_iff_not, bne_iff_ne, beq_iff_eq, beq_eq_false_iff_ne, bne_eq_false_iff_eq, ne_eq, Int.not_lt, Int.not_le, Decidable.not_not] at hq)) <;> (try (have hr := hg; simp only [decide_eq_true_eq, decide_eq_false_iff_not] at hr)) <;> (try (exfalso; omega)) <;> simp (config := {maxSteps := 10000000}) (disch := first | exact okYes (by kernel_rfl) | omega) only [ARun_nil, ARun_none, ARun_some, ARun_skip, AOpRun, AGo_f, AGo_ok, AG_tt, AG_ff, AG_tf, AG_ft, AG_un, aexec, run1, asI, elems, base, opt1, fillD, splice, abin, ash, isSh, foldI, mn2, mx2, ↓eget_h, eget_c, eget_n, eput_c, eput_n, putO, ↓hget_h, hget_c, hget_n, hput_c, hput_n, hdel_c, hdel_n, hups, cond_true, cond_false,  ups, St.F, St.app, FSt.ev, dropE_c, dropE_n, inL_c, inL_n, envOf, thenQ, blockQ, D.isBot, D.isAgg, D.cells, D.leaf, scalarEq, eqCells, isB, Option.map, List.map, List.length, List.all, List.append, List.take, List.drop, List.cons_append, List.nil_append, List.append_nil, Option.isSome, List.getElem?_cons_zero, List.getElem?_cons_succ, if_true, if_false, true_and, and_true, Bool.not_true, Bool.not_false, Bool.true_or, Bool.false_or, Bool.or_true, Bool.or_false, Bool.false_eq_true, ↓reduceIte, Nat.reduceAdd, Nat.reduceMul, Nat.reduceEqDiff, Nat.reduceBEq, Nat.reduceSub, Nat.zero_add, Nat.reduceLeDiff, Nat.reduceGT, Nat.reduceLT, Nat.reduceBNe, okLog_f, reduceCtorEq, or_self, or_false, false_or, or_true, true_or, and_self, and_false, false_and, not_true_eq_false, not_false_eq_true, ne_eq, Bool.and_true, Bool.true_and, Bool.and_false, Bool.false_and, decide_eq_true_eq, decide_true, decide_false, Int.reduceBEq, Int.reduceBNe, Int.reduceLT, Int.reduceLE, Int.reduceAdd, Int.reduceSub, Int.reduceMul, Int.reduceNeg, Int.reduceEq, Int.toNat_zero, Int.reduceToNat, Int.zero_lt_one, Nat.zero_le, Int.le_refl, beq_self_eq_true, bne_self_eq_false, cast_lit, fits, wrap_in, Int.toNat_natCast, Int.natCast_nonneg, dI, dB, hg, hr]) | ((first | refine aw_region ?_ | refine acall0 (works_ac) ?_ | refine ago_if (by omega) ?_ | skip); simp (config := {maxSteps := 10000000}) (disch := first | exact okYes (by kernel_rfl) | omega) only [ARun_nil, ARun_none, ARun_some, ARun_skip, AOpRun, AGo_f, AGo_ok, AG_tt, AG_ff, AG_tf, AG_ft, AG_un, aexec, run1, asI, elems, base, opt1, fillD, splice, abin, ash, isSh, foldI, mn2, mx2, ↓eget_h, eget_c, eget_n, eput_c, eput_n, putO, ↓hget_h, hget_c, hget_n, hput_c, hput_n, hdel_c, hdel_n, hups, cond_true, cond_false,  ups, St.F, St.app, FSt.ev, dropE_c, dropE_n, inL_c, inL_n, envOf, thenQ, blockQ, D.isBot, D.isAgg, D.cells, D.leaf, scalarEq, eqCells, isB, Option.map, List.map, List.length, List.all, List.append, List.take, List.drop, List.cons_append, List.nil_append, List.append_nil, Option.isSome, List.getElem?_cons_zero, List.getElem?_cons_succ, if_true, if_false, true_and, and_true, Bool.not_true, Bool.not_false, Bool.true_or, Bool.false_or, Bool.or_true, Bool.or_false, Bool.false_eq_true, ↓reduceIte, Nat.reduceAdd, Nat.reduceMul, Nat.reduceEqDiff, Nat.reduceBEq, Nat.reduceSub, Nat.zero_add, Nat.reduceLeDiff, Nat.reduceGT, Nat.reduceLT, Nat.reduceBNe, okLog_f, reduceCtorEq, or_self, or_false, false_or, or_true, true_or, and_self, and_false, false_and, not_true_eq_false, not_false_eq_true, ne_eq, Bool.and_true, Bool.true_and, Bool.and_false, Bool.false_and, decide_eq_true_eq, decide_true, decide_false, Int.reduceBEq, Int.reduceBNe, Int.reduceLT, Int.reduceLE, Int.reduceAdd, Int.reduceSub, Int.reduceMul, Int.reduceNeg, Int.reduceEq, Int.toNat_zero, Int.reduceToNat, Int.zero_lt_one, Nat.zero_le, Int.le_refl, beq_self_eq_true, bne_self_eq_false, cast_lit, fits, wrap_in, Int.toNat_natCast, Int.natCast_nonneg, dI, dB, hg, hr])))
      all_goals (refine end_to [] [] (by first | exact .inl rfl | exact .inr rfl) rfl (by kernel_rfl) (by kernel_rfl) (by kernel_rfl) ?_ ?_ <;> repeat' (first | exact trivial | exact vrl_flat _ (by first | exact icells_in _ | exact rcells_in _ | exact scells_in _ | exact bcells_in _ | assumption) | exact vr_val _ | exact vr_list _ | exact vr_at _ | exact vr_nil | exact vr_cap0 | exact vr_vec _ _ _ _ rfl | exact vr_own _ _ _ _ _ rfl | exact vr_ptr _ _ _ rfl | exact vr_nilv _ _ _ rfl | exact vr_bot _ | exact vr_cap0v _ _ _ rfl | exact vr_cap0l | apply vr_agg | apply vr_tup | apply vr_fn | refine vr_yld _ _ _ rfl ?_ | exact Ren.bot _ | exact Ren.val _ | exact Ren.list _ | exact Ren.at_ _ | exact Ren.ptr _ _ _ rfl | refine Ren.yld _ _ _ _ _ rfl rfl (RenL.get ?_).2 (fun _ _ _ h => h) | refine vr_fl _ _ _ _ _ (by decide) rfl ?_ ?_ ?_ ?_ | refine And.intro ⟨_, rfl, .inl ⟨_, rfl, by decide, ?_⟩⟩ ?_ | refine And.intro ⟨_, rfl, _, rfl, by decide, ?_⟩ ?_ | refine And.intro ⟨_, rfl, .inr ⟨rfl, rfl, of_decide_eq_true (by kernel_rfl)⟩⟩ ?_ | apply And.intro | refine vr_valq ?_ | refine vr_listq ?_))
    · have sj := se_with (g' := (-(100 - (k : Int)) - 1, 100 - k + 1)) e hl (by simp only; omega) (by simp only; omega) (by simp only; omega)
      have hj := hv (k - 1) (by omega)
      have hj2 : ¬ keO (mkS s b (-(100 - (k : Int)) - 1, 100 - k + 1)) l m < 0 := by
        have := of_decide_eq_false hj
        rw [Int.toNat_natCast] at this
        have e1 : (100 : Int) - ((k - 1 : Nat) : Int) = 100 - k + 1 := by omega
        have e2 : -(100 - ((k - 1 : Nat) : Int)) = -(100 - (k : Int)) - 1 := by omega
        unfold gusX at this
        rw [e2, e1] at this
        exact this
      have kj := skeeps_ac s b (-(100 - (k : Int)) - 1, 100 - k + 1) m l
      rw [sj, kk _ sj, decide_eq_false hj2] at kj
      (have hg : (987654321 : Nat) - 987654321 = 0 := rfl; have hr := hg; repeat' (first | refine aw_seq ?_ | (refine aw_skip ?_; try simp only [thenQ, blockQ, if_true, if_false, Nat.reduceEqDiff, reduceCtorEq]) | (refine aw_exit ?_; try simp only [thenQ, blockQ, if_true, if_false, Nat.reduceEqDiff, reduceCtorEq]) | refine aw_ret ?_ | refine aw_block ?_ | refine aw_condT rfl ?_ | refine aw_condF rfl ?_ | (refine aw_cond rfl (fun hg => ?_) (fun hg => ?_) <;> (try (have hq := hg; simp only [Bool.not_eq_true', Bool.not_eq_false', Bool.and_eq_true, Bool.and_eq_false_iff, Bool.or_eq_true, Bool.or_eq_false_iff, decide_eq_true_eq, decide_eq_false_iff_not, bne_iff_ne, beq_iff_eq, beq_eq_false_iff_ne, bne_eq_false_iff_eq, ne_eq, Int.not_lt, Int.not_le, Decidable.not_not] at hq)) <;> (try (have hr := hg; simp only [decide_eq_true_eq, decide_eq_false_iff_not] at hr)) <;> (try (exfalso; omega))) | (refine ag_bool (fun hg => ?_) (fun hg => ?_) <;> (try (have hq := hg; simp only [Bool.not_eq_true', Bool.not_eq_false', Bool.and_eq_true, Bool.and_eq_false_iff, Bool.or_eq_true, Bool.or_eq_false_iff, decide_eq_true_eq, decide_eq_false_iff_not, bne_iff_ne, beq_iff_eq, beq_eq_false_iff_ne, bne_eq_false_iff_eq, ne_eq, Int.not_lt, Int.not_le, Decidable.not_not] at hq)) <;> (try (have hr := hg; simp only [decide_eq_true_eq, decide_eq_false_iff_not] at hr)) <;> (try (exfalso; omega)) <;> simp (config := {maxSteps := 10000000}) (disch := first | exact okYes (by kernel_rfl) | omega) only [ARun_nil, ARun_none, ARun_some, ARun_skip, AOpRun, AGo_f, AGo_ok, AG_tt, AG_ff, AG_tf, AG_ft, AG_un, aexec, run1, asI, elems, base, opt1, fillD, splice, abin, ash, isSh, foldI, mn2, mx2, ↓eget_h, eget_c, eget_n, eput_c, eput_n, putO, ↓hget_h, hget_c, hget_n, hput_c, hput_n, hdel_c, hdel_n, hups, cond_true, cond_false,  ups, St.F, St.app, FSt.ev, dropE_c, dropE_n, inL_c, inL_n, envOf, thenQ, blockQ, D.isBot, D.isAgg, D.cells, D.leaf, scalarEq, eqCells, isB, Option.map, List.map, List.length, List.all, List.append, List.take, List.drop, List.cons_append, List.nil_append, List.append_nil, Option.isSome, List.getElem?_cons_zero, List.getElem?_cons_succ, if_true, if_false, true_and, and_true, Bool.not_true, Bool.not_false, Bool.true_or, Bool.false_or, Bool.or_true, Bool.or_false, Bool.false_eq_true, ↓reduceIte, Nat.reduceAdd, Nat.reduceMul, Nat.reduceEqDiff, Nat.reduceBEq, Nat.reduceSub, Nat.zero_add, Nat.reduceLeDiff, Nat.reduceGT, Nat.reduceLT, Nat.reduceBNe, okLog_f, reduceCtorEq, or_self, or_false, false_or, or_true, true_or, and_self, and_false, false_and, not_true_eq_false, not_false_eq_true, ne_eq, Bool.and_true, Bool.true_and, Bool.and_false, Bool.false_and, decide_eq_true_eq, decide_true, decide_false, Int.reduceBEq, Int.reduceBNe, Int.reduceLT, Int.reduceLE, Int.reduceAdd, Int.reduceSub, Int.reduceMul, Int.reduceNeg, Int.reduceEq, Int.toNat_zero, Int.reduceToNat, Int.zero_lt_one, Nat.zero_le, Int.le_refl, beq_self_eq_true, bne_self_eq_false, cast_lit, fits, wrap_in, Int.toNat_natCast, Int.natCast_nonneg, dI, dB, e, eE, eV, sps_all, sps_len, g0, g1, spD, Int.zero_sub, hg, hr]) | ((first | refine aw_region ?_ | refine acall0 (cs) ?_ | refine acall0 (gu) ?_ | refine acall0 (kz) ?_ | refine acall0 (kj) ?_ | refine acall0 (k1) ?_ | refine acall0 (h0) ?_ | refine acall0 (h1) ?_ | refine acall0 (h2) ?_ | refine acall0 (works_ac) ?_ | refine ago_if (by omega) ?_ | skip); simp (config := {maxSteps := 10000000}) (disch := first | exact okYes (by kernel_rfl) | omega) only [ARun_nil, ARun_none, ARun_some, ARun_skip, AOpRun, AGo_f, AGo_ok, AG_tt, AG_ff, AG_tf, AG_ft, AG_un, aexec, run1, asI, elems, base, opt1, fillD, splice, abin, ash, isSh, foldI, mn2, mx2, ↓eget_h, eget_c, eget_n, eput_c, eput_n, putO, ↓hget_h, hget_c, hget_n, hput_c, hput_n, hdel_c, hdel_n, hups, cond_true, cond_false,  ups, St.F, St.app, FSt.ev, dropE_c, dropE_n, inL_c, inL_n, envOf, thenQ, blockQ, D.isBot, D.isAgg, D.cells, D.leaf, scalarEq, eqCells, isB, Option.map, List.map, List.length, List.all, List.append, List.take, List.drop, List.cons_append, List.nil_append, List.append_nil, Option.isSome, List.getElem?_cons_zero, List.getElem?_cons_succ, if_true, if_false, true_and, and_true, Bool.not_true, Bool.not_false, Bool.true_or, Bool.false_or, Bool.or_true, Bool.or_false, Bool.false_eq_true, ↓reduceIte, Nat.reduceAdd, Nat.reduceMul, Nat.reduceEqDiff, Nat.reduceBEq, Nat.reduceSub, Nat.zero_add, Nat.reduceLeDiff, Nat.reduceGT, Nat.reduceLT, Nat.reduceBNe, okLog_f, reduceCtorEq, or_self, or_false, false_or, or_true, true_or, and_self, and_false, false_and, not_true_eq_false, not_false_eq_true, ne_eq, Bool.and_true, Bool.true_and, Bool.and_false, Bool.false_and, decide_eq_true_eq, decide_true, decide_false, Int.reduceBEq, Int.reduceBNe, Int.reduceLT, Int.reduceLE, Int.reduceAdd, Int.reduceSub, Int.reduceMul, Int.reduceNeg, Int.reduceEq, Int.toNat_zero, Int.reduceToNat, Int.zero_lt_one, Nat.zero_le, Int.le_refl, beq_self_eq_true, bne_self_eq_false, cast_lit, fits, wrap_in, Int.toNat_natCast, Int.natCast_nonneg, dI, dB, e, eE, eV, sps_all, sps_len, g0, g1, spD, Int.zero_sub, hg, hr])))
      refine acallV25 k2 (flat3 _ _ _) rfl (sps_two _) rfl rfl sp4 (by kernel_rfl) ?_
      (have hg : (987654321 : Nat) - 987654321 = 0 := rfl; have hr := hg; repeat' (first | refine aw_seq ?_ | (refine aw_skip ?_; try simp only [thenQ, blockQ, if_true, if_false, Nat.reduceEqDiff, reduceCtorEq]) | (refine aw_exit ?_; try simp only [thenQ, blockQ, if_true, if_false, Nat.reduceEqDiff, reduceCtorEq]) | refine aw_ret ?_ | refine aw_block ?_ | refine aw_condT rfl ?_ | refine aw_condF rfl ?_ | (refine aw_cond rfl (fun hg => ?_) (fun hg => ?_) <;> (try (have hq := hg; simp only [Bool.not_eq_true', Bool.not_eq_false', Bool.and_eq_true, Bool.and_eq_false_iff, Bool.or_eq_true, Bool.or_eq_false_iff, decide_eq_true_eq, decide_eq_false_iff_not, bne_iff_ne, beq_iff_eq, beq_eq_false_iff_ne, bne_eq_false_iff_eq, ne_eq, Int.not_lt, Int.not_le, Decidable.not_not] at hq)) <;> (try (have hr := hg; simp only [decide_eq_true_eq, decide_eq_false_iff_not] at hr)) <;> (try (exfalso; omega))) | (refine ag_bool (fun hg => ?_) (fun hg => ?_) <;> (try (have hq := hg; simp only [Bool.not_eq_true', Bool.not_eq_false', Bool.and_eq_true, Bool.and_eq_false_iff, Bool.or_eq_true, Bool.or_eq_false_iff, decide_eq_true_eq, decide_eq_false_iff_not, bne_iff_ne, beq_iff_eq, beq_eq_false_iff_ne, bne_eq_false_iff_eq, ne_eq, Int.not_lt, Int.not_le, Decidable.not_not] at hq)) <;> (try (have hr := hg; simp only [decide_eq_true_eq, decide_eq_false_iff_not] at hr)) <;> (try (exfalso; omega)) <;> simp (config := {maxSteps := 10000000}) (disch := first | exact okYes (by kernel_rfl) | omega) only [ARun_nil, ARun_none, ARun_some, ARun_skip, AOpRun, AGo_f, AGo_ok, AG_tt, AG_ff, AG_tf, AG_ft, AG_un, aexec, run1, asI, elems, base, opt1, fillD, splice, abin, ash, isSh, foldI, mn2, mx2, ↓eget_h, eget_c, eget_n, eput_c, eput_n, putO, ↓hget_h, hget_c, hget_n, hput_c, hput_n, hdel_c, hdel_n, hups, cond_true, cond_false,  ups, St.F, St.app, FSt.ev, dropE_c, dropE_n, inL_c, inL_n, envOf, thenQ, blockQ, D.isBot, D.isAgg, D.cells, D.leaf, scalarEq, eqCells, isB, Option.map, List.map, List.length, List.all, List.append, List.take, List.drop, List.cons_append, List.nil_append, List.append_nil, Option.isSome, List.getElem?_cons_zero, List.getElem?_cons_succ, if_true, if_false, true_and, and_true, Bool.not_true, Bool.not_false, Bool.true_or, Bool.false_or, Bool.or_true, Bool.or_false, Bool.false_eq_true, ↓reduceIte, Nat.reduceAdd, Nat.reduceMul, Nat.reduceEqDiff, Nat.reduceBEq, Nat.reduceSub, Nat.zero_add, Nat.reduceLeDiff, Nat.reduceGT, Nat.reduceLT, Nat.reduceBNe, okLog_f, reduceCtorEq, or_self, or_false, false_or, or_true, true_or, and_self, and_false, false_and, not_true_eq_false, not_false_eq_true, ne_eq, Bool.and_true, Bool.true_and, Bool.and_false, Bool.false_and, decide_eq_true_eq, decide_true, decide_false, Int.reduceBEq, Int.reduceBNe, Int.reduceLT, Int.reduceLE, Int.reduceAdd, Int.reduceSub, Int.reduceMul, Int.reduceNeg, Int.reduceEq, Int.toNat_zero, Int.reduceToNat, Int.zero_lt_one, Nat.zero_le, Int.le_refl, beq_self_eq_true, bne_self_eq_false, cast_lit, fits, wrap_in, Int.toNat_natCast, Int.natCast_nonneg, dI, dB, hg, hr]) | ((first | refine aw_region ?_ | refine acall0 (works_ac) ?_ | refine ago_if (by omega) ?_ | skip); simp (config := {maxSteps := 10000000}) (disch := first | exact okYes (by kernel_rfl) | omega) only [ARun_nil, ARun_none, ARun_some, ARun_skip, AOpRun, AGo_f, AGo_ok, AG_tt, AG_ff, AG_tf, AG_ft, AG_un, aexec, run1, asI, elems, base, opt1, fillD, splice, abin, ash, isSh, foldI, mn2, mx2, ↓eget_h, eget_c, eget_n, eput_c, eput_n, putO, ↓hget_h, hget_c, hget_n, hput_c, hput_n, hdel_c, hdel_n, hups, cond_true, cond_false,  ups, St.F, St.app, FSt.ev, dropE_c, dropE_n, inL_c, inL_n, envOf, thenQ, blockQ, D.isBot, D.isAgg, D.cells, D.leaf, scalarEq, eqCells, isB, Option.map, List.map, List.length, List.all, List.append, List.take, List.drop, List.cons_append, List.nil_append, List.append_nil, Option.isSome, List.getElem?_cons_zero, List.getElem?_cons_succ, if_true, if_false, true_and, and_true, Bool.not_true, Bool.not_false, Bool.true_or, Bool.false_or, Bool.or_true, Bool.or_false, Bool.false_eq_true, ↓reduceIte, Nat.reduceAdd, Nat.reduceMul, Nat.reduceEqDiff, Nat.reduceBEq, Nat.reduceSub, Nat.zero_add, Nat.reduceLeDiff, Nat.reduceGT, Nat.reduceLT, Nat.reduceBNe, okLog_f, reduceCtorEq, or_self, or_false, false_or, or_true, true_or, and_self, and_false, false_and, not_true_eq_false, not_false_eq_true, ne_eq, Bool.and_true, Bool.true_and, Bool.and_false, Bool.false_and, decide_eq_true_eq, decide_true, decide_false, Int.reduceBEq, Int.reduceBNe, Int.reduceLT, Int.reduceLE, Int.reduceAdd, Int.reduceSub, Int.reduceMul, Int.reduceNeg, Int.reduceEq, Int.toNat_zero, Int.reduceToNat, Int.zero_lt_one, Nat.zero_le, Int.le_refl, beq_self_eq_true, bne_self_eq_false, cast_lit, fits, wrap_in, Int.toNat_natCast, Int.natCast_nonneg, dI, dB, hg, hr])))
      all_goals (refine end_to [] [] (by first | exact .inl rfl | exact .inr rfl) rfl (by kernel_rfl) (by kernel_rfl) (by kernel_rfl) ?_ ?_ <;> repeat' (first | exact trivial | exact vrl_flat _ (by first | exact icells_in _ | exact rcells_in _ | exact scells_in _ | exact bcells_in _ | assumption) | exact vr_val _ | exact vr_list _ | exact vr_at _ | exact vr_nil | exact vr_cap0 | exact vr_vec _ _ _ _ rfl | exact vr_own _ _ _ _ _ rfl | exact vr_ptr _ _ _ rfl | exact vr_nilv _ _ _ rfl | exact vr_bot _ | exact vr_cap0v _ _ _ rfl | exact vr_cap0l | apply vr_agg | apply vr_tup | apply vr_fn | refine vr_yld _ _ _ rfl ?_ | exact Ren.bot _ | exact Ren.val _ | exact Ren.list _ | exact Ren.at_ _ | exact Ren.ptr _ _ _ rfl | refine Ren.yld _ _ _ _ _ rfl rfl (RenL.get ?_).2 (fun _ _ _ h => h) | refine vr_fl _ _ _ _ _ (by decide) rfl ?_ ?_ ?_ ?_ | refine And.intro ⟨_, rfl, .inl ⟨_, rfl, by decide, ?_⟩⟩ ?_ | refine And.intro ⟨_, rfl, _, rfl, by decide, ?_⟩ ?_ | refine And.intro ⟨_, rfl, .inr ⟨rfl, rfl, of_decide_eq_true (by kernel_rfl)⟩⟩ ?_ | apply And.intro | refine vr_valq ?_ | refine vr_listq ?_))
end Go.Proofs.Ythohcimmoobaoaa
