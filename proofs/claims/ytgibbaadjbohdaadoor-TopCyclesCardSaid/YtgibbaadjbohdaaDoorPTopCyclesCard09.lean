/- Texts of the law TopCyclesCard, part 9. No conditions. -/
import Derived.Test.YtgibbaadjbohdaaDoorPTopCyclesCard08
import Derived.Test.YtgibbaadjbohdaaDoorRows
set_option linter.unusedSimpArgs false
set_option linter.unusedVariables false
/- What came in or was made, as lists of numbers, in both tongues; old contracts as abstract ones. -/
namespace Go.Proofs.YtgibbaadjbohdaaDoor
open Go.RowKit Lift

section
variable {w : World} {β : Bet} {Z : Blk}
theorem rep_ints {v : Value} {l : List Int} (h : Rep w β Z v (.list (ints l))) : ∃ A c, v = .slice A l.length c ∧ Ints w A l ∧ l.length ≤ c := by
  generalize hd : D.list (ints l) = d at h
  cases h with
  | list0 A c =>
    have : l = [] := by simpa [ints] using hd
    subst this
    exact ⟨A, c, rfl, fun h => by simp at h, by simp⟩
  | list b off c sz L vs hz hb hc hs hcell hrep =>
    cases hd
    refine ⟨_, c, by rw [ints_len], fun hl => ⟨b, off, rfl, hb, fun k hk => ?_⟩, by rw [← ints_len l]; exact hc⟩
    have hk' : k < (ints l).length := by rw [ints_len]; exact hk
    have hg := ints_get l k hk'
    have hsz : sz = 1 := by rw [← hs _ (List.getElem_mem hk'), hg]; rfl
    have h0 : 0 < (ints l)[k].length := by rw [hg]; simp
    have h1 := hcell k 0 hk' h0
    have h2 := hrep k 0 hk' h0
    rw [getElem_of_eq hk' hg 0 h0 (by simp)] at h2
    simp only [List.getElem_cons_zero] at h2
    rw [h1.trans (congrArg some h2.val_eq.symm) |>.symm, hsz]
    simp
  | _ => cases hd
theorem rep_mat {v : Value} {l : List (List Int)} (h : Rep w β Z v (.list (rows l))) : ∃ A c, v = .slice A l.length c ∧ Mat w A l := by
  generalize hd : D.list (rows l) = d at h
  cases h with
  | list0 A c =>
    have : l = [] := by simpa [rows] using hd
    subst this
    exact ⟨A, c, rfl, fun h => by simp at h⟩
  | list b off c sz L vs hz hb hc hs hcell hrep =>
    cases hd
    refine ⟨_, c, by rw [rows_len], fun hl => ⟨b, off, rfl, hb, fun k hk => ?_⟩⟩
    have hk' : k < (rows l).length := by rw [rows_len]; exact hk
    have hg := rows_get l k hk'
    have hsz : sz = 1 := by rw [← hs _ (List.getElem_mem hk'), hg]; rfl
    have h0 : 0 < (rows l)[k].length := by rw [hg]; simp
    have h1 := hcell k 0 hk' h0
    have h2 := hrep k 0 hk' h0
    rw [getElem_of_eq hk' hg 0 h0 (by simp)] at h2
    simp only [List.getElem_cons_zero] at h2
    obtain ⟨A, cc, e1, e2, _⟩ := rep_ints h2
    refine ⟨A, cc, ?_, e2⟩
    rw [hsz, e1] at h1
    simpa using h1
  | _ => cases hd
theorem rep_agg {v : Value} {l : List D} (h : Rep w β Z v (.agg l)) : ∃ cs : Array Value, v = .agg cs ∧ cs.size = l.length ∧ ∀ i (h : i < l.length), Rep w β Z (cs.getD i undef) l[i] := by
  cases h with
  | agg cs _ h1 h2 => exact ⟨cs, rfl, h1, h2⟩
theorem rep_tab {v : Value} {xs ys : List Int} {vs : List (List Int)} (h : Rep w β Z v (tabD xs ys vs)) : ∃ X Y V cx cy cv, v = .agg #[.slice X xs.length cx, .slice Y ys.length cy, .slice V vs.length cv] ∧ TabR w X Y V cx cy cv xs ys vs := by
  obtain ⟨cs, rfl, h1, h2⟩ := rep_agg h
  obtain ⟨X, cx, e0, hX, lx⟩ := rep_ints (h2 0 (by simp))
  obtain ⟨Y, cy, e1, hY, ly⟩ := rep_ints (h2 1 (by simp))
  obtain ⟨V, cv, e2, hV⟩ := rep_mat (h2 2 (by simp))
  refine ⟨X, Y, V, cx, cy, cv, ?_, ⟨hX, hY, hV, lx, ly⟩⟩
  rw [← e0, ← e1, ← e2]
  congr 1
  apply Array.ext
  · simpa using h1
  · intro i h3 h4
    have h5 : i < 3 := by simpa using h4
    match i, h5 with
    | 0, _ => simp [h3]
    | 1, _ => simp [h3]
    | 2, _ => simp [h3]
theorem rep_sp {v : Value} {x : Int × Int} (h : Rep w β Z v (spD x)) : v = .agg #[.int .i64 x.1, .int .i64 x.2] := by
  obtain ⟨cs, rfl, h1, h2⟩ := rep_agg h
  have e0 := (h2 0 (by simp)).val_eq
  have e1 := (h2 1 (by simp)).val_eq
  rw [e0, e1]
  congr 1
  apply Array.ext
  · simpa using h1
  · intro i h3 h4
    have h5 : i < 2 := by simpa using h4
    match i, h5 with
    | 0, _ => simp [h3]
    | 1, _ => simp [h3]
end
theorem args3 {vs : Array Value} (h : vs.size = 3) : vs = #[vs.getD 0 undef, vs.getD 1 undef, vs.getD 2 undef] := by
  apply Array.ext
  · simpa using h
  · intro i h3 h4
    have h5 : i < 3 := by simpa using h4
    match i, h5 with
    | 0, _ => simp [h3]
    | 1, _ => simp [h3]
    | 2, _ => simp [h3]
end Go.Proofs.YtgibbaadjbohdaaDoor
/- Old contracts as abstract ones: tables and bounds. No conditions. -/
namespace Go.Proofs.YtgibbaadjbohdaaDoor
open Go.RowKit Lift

theorem flat_sp (x : Int × Int) (w : World) (β : Bet) (Z : Blk) : Rep w β Z (.agg #[.int .i64 x.1, .int .i64 x.2]) (spD x) :=
  .agg _ _ rfl fun i hi => by
    have : i < 2 := by simpa using hi
    match i, this with
    | 0, _ => exact .val _
    | 1, _ => exact .val _
theorem flat_sp1 (x : Int × Int) (e : Int) (w : World) (β : Bet) (Z : Blk) : Rep w β Z (.tuple #[.agg #[.int .i64 x.1, .int .i64 x.2], .int .i64 e]) (.tup [spD x, dI e]) :=
  .tup _ _ rfl fun i hi => by
    have : i < 2 := by simpa using hi
    match i, this with
    | 0, _ => exact flat_sp x w β Z
    | 1, _ => exact .val _
theorem Tbl.sz {xs ys : List Int} {vs : List (List Int)} (h : Tbl xs ys vs) : TSz xs ys vs := by
  have h1 := h.ax.twelve
  have h2 := h.ay.twelve
  have h3 := h.len
  refine ⟨by omega, by omega, by omega, fun r hr => ?_⟩
  obtain ⟨k, hk, rfl⟩ := List.getElem_of_mem hr
  have := h.row k hk
  simp only [List.getElem?_eq_getElem hk, Option.getD_some] at this
  omega
section
variable {xs ys : List Int} {vs : List (List Int)}
theorem bound_ac (x y : Int × Int) (hS : TSz xs ys vs) : AC Tryd.prog 10 [tabD xs ys vs, spD x, spD y] [] [] (.tup [spD (boundR xs ys vs x y).1, dI (boundR xs ys vs x y).2]) :=
  ac_of_calls ⟨Tryd.f10, Tryd.func10, by decide, rfl⟩ (flat_sp1 _ _) fun w us β Z hs hr => by
    obtain ⟨X, Y, V, cx, cy, cv, e, hR⟩ := rep_tab (hr 0 (by simp))
    rw [args3 hs, e, rep_sp (hr 1 (by simp)), rep_sp (hr 2 (by simp))]
    exact bound_any xs ys vs X Y V cx cy cv x y w hS hR
end
end Go.Proofs.YtgibbaadjbohdaaDoor
/- The functions' bodies, translated. Written by a program; no conditions. -/
namespace Go.Proofs.YtgibbaadjbohdaaDoor
open Go.RowKit Lift

def cspans_axis : ACode :=
 (.seq
 (.region false [oo 2 (.mv (.const (.bool false)))] [])
 (.seq
 (.seq
 (.region false [oo 5 (.mv (.tmp 0)),
 oo 6 (.len_ (.tmp 5)),
 oo 7 (.call (.func 39) [(.tmp 6), (kI 2), (kI 12)]),
 oo 8 (.un .not (.tmp 7))] [5,6,7])
 (.cond (.tmp 8)
 (.seq
 (.region false [oo 2 (.mv (.const (.bool false)))] [])
 .ret)
 .skip))
 (.seq
 (.seq
 (.region false [oo 9 (.mv (.tmp 0)),
 oo 10 (.len_ (.tmp 9)),
 oo 11 (.mv (kI 0))] [])
 (.block 0
 (.loop
 (.seq
 (.region false [oo 12 (.bin .lss (.tmp 11) (.tmp 10))] [])
 (.seq
 (.cond (.tmp 12)
 .skip
 (.exit 0))
 (.seq
 (.block 1
 (.seq
 (.region false [oo 13 (.mv (.tmp 11)),
 oo 14 (.iadS 1 (.tmp 9) (.tmp 11)),
 oo 15 (.load1 (.tmp 14)),
 oo 3 (.mv (.tmp 13)),
 oo 4 (.mv (.tmp 15))] [13,14,15])
 (.seq
 (.region false [oo 16 (.mv (.tmp 4)),
 oo 17 (.call (.func 39) [(.tmp 16), (kI (-1000000)), (kI 1000000)]),
 oo 18 (.un .not (.tmp 17)),
 oo 19 (.mv (.tmp 18)),
 og 20 19 false (.mv (.tmp 3)) [],
 og 21 19 false (.bin .gtr (.tmp 20) (kI 0)) [],
 og 22 19 false (.mv (.tmp 21)) [],
 og 23 22 true (.mv (.tmp 4)) [],
 og 24 22 true (.mv (.tmp 0)) [],
 og 25 22 true (.mv (.tmp 3)) [],
 og 26 22 true (.bin .sub (.tmp 25) (kI 1)) [],
 og 27 22 true (.iadS 1 (.tmp 24) (.tmp 26)) [],
 og 28 22 true (.load1 (.tmp 27)) [],
 og 29 22 true (.bin .sub (.tmp 23) (.tmp 28)) [],
 og 30 22 true (.call (.func 39) [(.tmp 29), (kI 1), (kI 10000)]) [],
 og 31 22 true (.un .not (.tmp 30)) [],
 og 32 19 false (.pick (.tmp 22) (.tmp 31) (.const (.bool false))) [],
 oo 33 (.pick (.tmp 19) (.const (.bool true)) (.tmp 32))] [16,17,18,19,20,21,22,23,24,25,26,27,28,29,30,31,32])
 (.cond (.tmp 33)
 (.seq
 (.region false [oo 2 (.mv (.const (.bool false)))] [])
 .ret)
 .skip))))
 (.region false [oo 34 (.bin .add (.tmp 11) (kI 1)),
 oo 11 (.mv (.tmp 34))] [34])))))))
 (.seq
 (.region false [oo 2 (.mv (.const (.bool true)))] [])
 .ret))))
set_option maxRecDepth 100000 in
theorem kspans_axis : IsCode Tryd.prog 55 35 cspans_axis [.tmp 2] :=
 ⟨Tryd.f55, _, [33,12,8,0,11,10,9,4,3,2], Tryd.func55, rfl, by decide, rfl, by kernel_rfl, by kernel_rfl⟩
def cspans_CheckTable : ACode :=
 (.seq
 (.region false [oo 1 (.box (.tmp 0)),
 oo 2 (.mv (kI 0))] [])
 (.seq
 (.region false [oo 3 (.mem [(.val (.nilFunc))]),
 on (.store 1 (.tmp 3) (.func 52))] [])
 (.seq
 (.region false [oo 5 (.mkfn 53 [] [(.tmp 1), (.tmp 3)]),
 oo 4 (.mv (.tmp 5))] [5])
 (.seq
 (.seq
 (.region false [oo 6 (.fad 0 (.tmp 1)),
 oo 7 (.load1 (.tmp 6)),
 oo 8 (.call (.func 55) [(.tmp 7)]),
 oo 9 (.un .not (.tmp 8)),
 oo 10 (.mv (.tmp 9)),
 og 11 10 false (.fad 1 (.tmp 1)) [],
 og 12 10 false (.load1 (.tmp 11)) [],
 og 13 10 false (.call (.func 55) [(.tmp 12)]) [],
 og 14 10 false (.un .not (.tmp 13)) [],
 oo 15 (.pick (.tmp 10) (.const (.bool true)) (.tmp 14)),
 oo 16 (.mv (.tmp 15)),
 og 17 16 false (.fad 2 (.tmp 1)) [],
 og 18 16 false (.load1 (.tmp 17)) [],
 og 19 16 false (.len_ (.tmp 18)) [],
 og 20 16 false (.fad 0 (.tmp 1)) [],
 og 21 16 false (.load1 (.tmp 20)) [],
 og 22 16 false (.len_ (.tmp 21)) [],
 og 23 16 false (.bin .neq (.tmp 19) (.tmp 22)) [],
 oo 24 (.pick (.tmp 16) (.const (.bool true)) (.tmp 23)),
 oo 25 (.mv (.tmp 24)),
 og 26 25 false (.fad 2 (.tmp 1)) [],
 og 27 25 false (.load1 (.tmp 26)) [],
 og 28 25 false (.mv (.tmp 4)) [],
 og 29 25 false (.call (.func 56) [(.tmp 27), (.tmp 28)]) [],
 oo 30 (.pick (.tmp 25) (.const (.bool true)) (.tmp 29))] [6,7,8,9,10,11,12,13,14,15,16,17,18,19,20,21,22,23,24,25,26,27,28,29])
 (.cond (.tmp 30)
 (.seq
 (.region false [oo 2 (.mv (kI 11))] [])
 .ret)
 .skip))
 (.seq
 (.region false [oo 2 (.mv (kI 0))] [])
 .ret)))))
set_option maxRecDepth 100000 in
theorem kspans_CheckTable : IsCode Tryd.prog 33 31 cspans_CheckTable [.tmp 2] :=
 ⟨Tryd.f33, _, [30,0,1,3,4,2], Tryd.func33, rfl, by decide, rfl, by kernel_rfl, by kernel_rfl⟩
def cspans_CheckTable_S1 : ACode :=
 (.seq
 (.region false [oo 2 (.mv (.const (.bool false)))] [])
 (.seq
 (.region false [oo 3 (.mv (.tmp 0)),
 oo 4 (.call (.func 39) [(.tmp 3), (kI (-1000000)), (kI 1000000)]),
 oo 5 (.un .not (.tmp 4)),
 oo 2 (.mv (.tmp 5))] [3,4,5])
 .ret))
set_option maxRecDepth 100000 in
theorem kspans_CheckTable_S1 : IsCode Tryd.prog 52 6 cspans_CheckTable_S1 [.tmp 2] :=
 ⟨Tryd.f52, _, [0,2], Tryd.func52, rfl, by decide, rfl, by kernel_rfl, by kernel_rfl⟩
def cspans_CheckTable_S2 : ACode :=
 (.seq
 (.region false [oo 4 (.mv (.const (.bool false)))] [])
 (.seq
 (.region false [oo 5 (.mv (.tmp 0)),
 oo 6 (.len_ (.tmp 5)),
 oo 7 (.fad 1 (.tmp 1)),
 oo 8 (.load1 (.tmp 7)),
 oo 9 (.len_ (.tmp 8)),
 oo 10 (.bin .neq (.tmp 6) (.tmp 9)),
 oo 11 (.mv (.tmp 10)),
 og 12 11 false (.mv (.tmp 0)) [],
 og 13 11 false (.load1 (.tmp 2)) [],
 og 14 11 false (.call (.func 54) [(.tmp 12), (.tmp 13)]) [],
 oo 15 (.pick (.tmp 11) (.const (.bool true)) (.tmp 14)),
 oo 4 (.mv (.tmp 15))] [5,6,7,8,9,10,11,12,13,14,15])
 .ret))
set_option maxRecDepth 100000 in
theorem kspans_CheckTable_S2 : IsCode Tryd.prog 53 16 cspans_CheckTable_S2 [.tmp 4] :=
 ⟨Tryd.f53, _, [0,1,2,4], Tryd.func53, rfl, by decide, rfl, by kernel_rfl, by kernel_rfl⟩
end Go.Proofs.YtgibbaadjbohdaaDoor
/- Tables: their check, on abstract values, both sides. No conditions. -/
namespace Go.Proofs.YtgibbaadjbohdaaDoor
open Go.RowKit Lift

set_option maxRecDepth 100000 in
set_option maxHeartbeats 1000000 in
theorem axis_ac (l : List Int) (hsm : ∀ x ∈ l, -9223372036854775808 ≤ x ∧ x ≤ 9223372036854775807) : AC Tryd.prog 55 [.list (ints l)] [] [] (dB (axB l)) := by
  refine kspans_axis.ac (n0 := 0) (by simp) ⟨.list _, trivial⟩ trivial rfl ?_
  unfold cspans_axis
  have hw : ∀ n a b : Int, AC Tryd.prog 39 [dI n, dI a, dI b] [] [] (dB (wB n a b)) := bwithin_ac
  cases hl : wB l.length 2 12 with
  | false =>
    have e : axB l = false := by unfold axB; rw [hl]; rfl
    rw [e]
    (repeat' (first | apply aw_seq | ((first | apply aw_skip | apply aw_exit); try simp only [thenQ, blockQ, if_true, if_false, Nat.reduceEqDiff, reduceCtorEq]) | apply aw_ret | apply aw_block | apply aw_condT rfl | apply aw_condF rfl | ((first | refine aw_region ?_ | refine acall0 (hw _ _ _) ?_ | refine ago_if (by omega) ?_ | skip); simp (disch := first | exact okY | omega) only [ZU, Int.reduceNeg, dB, Nat.reduceMul, AOpRun, aexec, Nat.reduceBEq, Nat.reduceAdd, ↓eget_h, ints_len, hl])))
    all_goals (refine end_q [] [] ?_ ?_ <;> repeat' (first | exact trivial | exact vr_val _))
  | true =>
  have h12 := wB_iff.1 hl
  have e : axB l = axFrom none l := by unfold axB; rw [hl]; rfl
  rw [e]
  have gs : ∀ k, k < l.length → -9223372036854775808 ≤ l[k]?.getD 0 ∧ l[k]?.getD 0 ≤ 9223372036854775807 := fun k h => by
    have := hsm l[k] (List.getElem_mem h)
    simpa [h] using this
  (repeat' (first | apply aw_seq | ((first | apply aw_skip | apply aw_exit); try simp only [thenQ, blockQ, if_true, if_false, Nat.reduceEqDiff, reduceCtorEq]) | apply aw_ret | apply aw_block | apply aw_condT rfl | apply aw_condF rfl | ((first | refine aw_region ?_ | refine acall0 (hw _ _ _) ?_ | refine ago_if (by omega) ?_ | skip); simp (disch := first | exact okY | omega) only [ZU, Int.reduceNeg, dB, Nat.reduceMul, AOpRun, aexec, Nat.reduceBEq, Nat.reduceAdd, ↓eget_h, ints_len, hl])))
  refine aw_loop (fun k : Nat => ⟨[(0, .list (ints l)), (9, .list (ints l)), (10, dI l.length), (11, dI k)], [], 400⟩) (fun k => k ≤ l.length ∧ axFrom none l = axFrom (prev l k) (l.drop k) ∧ (0 < k → -1000000 ≤ l[k-1]?.getD 0 ∧ l[k-1]?.getD 0 ≤ 1000000)) (fun k => l.length - k) ⟨0, ⟨by omega, rfl, by omega⟩, ?_⟩ ?_
  · refine wk_q [] [] ?_ ?_ <;> repeat' (first | exact trivial | exact vr_val _ | exact vr_list _ | apply And.intro)
  · rintro k ⟨hk, hv, hpv⟩
    by_cases hk2 : k < l.length
    · have g1 := ints_gd l k hk2
      have gk := gs k hk2
      rw [axFrom_drop l k hk2] at hv
      cases c1 : wB (l[k]?.getD 0) (-1000000) 1000000 with
      | false =>
        rw [c1] at hv
        rw [hv]
        (have hg : (987654321 : Nat) - 987654321 = 0 := rfl; have hr := hg; repeat' (first | apply aw_seq | ((first | apply aw_skip | apply aw_exit); try simp only [thenQ, blockQ, if_true, if_false, Nat.reduceEqDiff, reduceCtorEq]) | apply aw_ret | apply aw_block | apply aw_condT rfl | apply aw_condF rfl | (refine aw_cond rfl (fun hg => ?_) (fun hg => ?_) <;> (try (have hq := hg; simp only [Bool.not_eq_true', Bool.not_eq_false', Bool.and_eq_true, Bool.and_eq_false_iff, Bool.or_eq_true, Bool.or_eq_false_iff, decide_eq_true_eq, decide_eq_false_iff_not, bne_iff_ne, beq_iff_eq, beq_eq_false_iff_ne, bne_eq_false_iff_eq, ne_eq, Int.not_lt, Int.not_le, Decidable.not_not] at hq)) <;> (try (have hr := hg; simp only [decide_eq_true_eq, decide_eq_false_iff_not] at hr)) <;> (try (exfalso; omega))) | ((first | refine aw_region ?_ | refine acall0 (hw _ _ _) ?_ | refine ago_if (by omega) ?_ | skip); simp (disch := first | exact okY | omega) only [ZU, Int.reduceNeg, Bool.false_and, dI, Nat.reduceMul, Nat.reduceAdd, AOpRun, aexec, Nat.reduceBEq, ↓eget_h, isSh, ↓reduceIte, abin, hr, ints_all, opt1, g1, run1, dB, c1, ARun_some, AG_tf, AG_un, blockQ])))
        all_goals (refine end_q [] [] ?_ ?_ <;> repeat' (first | exact trivial | exact vr_val _))
      | true =>
        rw [c1] at hv
        have b1 := wB_iff.1 c1
        rcases Nat.eq_zero_or_pos k with rfl | hk0
        · simp only [if_pos, Bool.true_and] at hv
          (have hg : (987654321 : Nat) - 987654321 = 0 := rfl; have hr := hg; repeat' (first | apply aw_seq | ((first | apply aw_skip | apply aw_exit); try simp only [thenQ, blockQ, if_true, if_false, Nat.reduceEqDiff, reduceCtorEq]) | apply aw_ret | apply aw_block | apply aw_condT rfl | apply aw_condF rfl | (refine aw_cond rfl (fun hg => ?_) (fun hg => ?_) <;> (try (have hq := hg; simp only [Bool.not_eq_true', Bool.not_eq_false', Bool.and_eq_true, Bool.and_eq_false_iff, Bool.or_eq_true, Bool.or_eq_false_iff, decide_eq_true_eq, decide_eq_false_iff_not, bne_iff_ne, beq_iff_eq, beq_eq_false_iff_ne, bne_eq_false_iff_eq, ne_eq, Int.not_lt, Int.not_le, Decidable.not_not] at hq)) <;> (try (have hr := hg; simp only [decide_eq_true_eq, decide_eq_false_iff_not] at hr)) <;> (try (exfalso; omega))) | (refine ag_bool (fun hg => ?_) (fun hg => ?_) <;> (try (have hq := hg; simp only [Bool.not_eq_true', Bool.not_eq_false', Bool.and_eq_true, Bool.and_eq_false_iff, Bool.or_eq_true, Bool.or_eq_false_iff, decide_eq_true_eq, decide_eq_false_iff_not, bne_iff_ne, beq_iff_eq, beq_eq_false_iff_ne, bne_eq_false_iff_eq, ne_eq, Int.not_lt, Int.not_le, Decidable.not_not] at hq)) <;> (try (have hr := hg; simp only [decide_eq_true_eq, decide_eq_false_iff_not] at hr)) <;> (try (exfalso; omega)) <;> simp (disch := first | exact okY | omega) only [ZU, Int.reduceNeg, hr, decide_false, AG_ft, Nat.reduceAdd, Nat.reduceBEq, ARun_some, ↓eget_h, AG_ff, AOpRun, aexec, ↓reduceIte]) | ((first | refine aw_region ?_ | refine acall0 (hw _ _ _) ?_ | refine ago_if (by omega) ?_ | skip); simp (disch := first | exact okY | omega) only [ZU, Int.reduceNeg, dI, Nat.reduceMul, Nat.reduceAdd, cast_lit, AOpRun, aexec, Nat.reduceBEq, ↓eget_h, isSh, ↓reduceIte, abin, hr, Int.le_refl, ints_all, opt1, Int.toNat_zero, g1, run1, dB, c1, ARun_some, AG_ff, Int.reduceAdd, fits])))
          exact ⟨0 + 1, ⟨by omega, hv, fun _ => b1⟩, by omega, by refine wk_q [] [] ?_ ?_ <;> repeat' (first | exact trivial | exact vr_val _ | exact vr_list _ | apply And.intro)⟩
        · rw [if_neg (by omega)] at hv
          have g2 := ints_gd l (k - 1) (by omega)
          have k1 : ((k : Int) - 1).toNat = k - 1 := by omega
          have k2 : ((k : Int) - 1) = ((k - 1 : Nat) : Int) := by omega
          have k0 : decide ((k : Int) > 0) = true := decide_eq_true (by omega)
          have gp := hpv hk0
          have hkn := hk0
          cases c2 : wB (l[k]?.getD 0 - l[k - 1]?.getD 0) 1 10000 with
          | false =>
            rw [c2] at hv
            rw [hv]
            (have hg : (987654321 : Nat) - 987654321 = 0 := rfl; have hr := hg; repeat' (first | apply aw_seq | ((first | apply aw_skip | apply aw_exit); try simp only [thenQ, blockQ, if_true, if_false, Nat.reduceEqDiff, reduceCtorEq]) | apply aw_ret | apply aw_block | apply aw_condT rfl | apply aw_condF rfl | (refine aw_cond rfl (fun hg => ?_) (fun hg => ?_) <;> (try (have hq := hg; simp only [Bool.not_eq_true', Bool.not_eq_false', Bool.and_eq_true, Bool.and_eq_false_iff, Bool.or_eq_true, Bool.or_eq_false_iff, decide_eq_true_eq, decide_eq_false_iff_not, bne_iff_ne, beq_iff_eq, beq_eq_false_iff_ne, bne_eq_false_iff_eq, ne_eq, Int.not_lt, Int.not_le, Decidable.not_not] at hq)) <;> (try (have hr := hg; simp only [decide_eq_true_eq, decide_eq_false_iff_not] at hr)) <;> (try (exfalso; omega))) | ((first | refine aw_region ?_ | refine acall0 (hw _ _ _) ?_ | refine ago_if (by omega) ?_ | skip); simp (disch := first | exact okY | omega) only [ZU, Int.reduceNeg, Bool.and_false, Bool.false_and, dI, Nat.reduceMul, Nat.reduceAdd, AOpRun, aexec, Nat.reduceBEq, ↓eget_h, isSh, ↓reduceIte, abin, hr, ints_all, opt1, g1, run1, dB, c1, ARun_some, AG_ff, k0, AG_tt, fits, and_true, k1, g2, c2, blockQ])))
            all_goals (refine end_q [] [] ?_ ?_ <;> repeat' (first | exact trivial | exact vr_val _))
          | true =>
            rw [c2] at hv
            simp only [Bool.true_and] at hv
            (have hg : (987654321 : Nat) - 987654321 = 0 := rfl; have hr := hg; repeat' (first | apply aw_seq | ((first | apply aw_skip | apply aw_exit); try simp only [thenQ, blockQ, if_true, if_false, Nat.reduceEqDiff, reduceCtorEq]) | apply aw_ret | apply aw_block | apply aw_condT rfl | apply aw_condF rfl | (refine aw_cond rfl (fun hg => ?_) (fun hg => ?_) <;> (try (have hq := hg; simp only [Bool.not_eq_true', Bool.not_eq_false', Bool.and_eq_true, Bool.and_eq_false_iff, Bool.or_eq_true, Bool.or_eq_false_iff, decide_eq_true_eq, decide_eq_false_iff_not, bne_iff_ne, beq_iff_eq, beq_eq_false_iff_ne, bne_eq_false_iff_eq, ne_eq, Int.not_lt, Int.not_le, Decidable.not_not] at hq)) <;> (try (have hr := hg; simp only [decide_eq_true_eq, decide_eq_false_iff_not] at hr)) <;> (try (exfalso; omega))) | ((first | refine aw_region ?_ | refine acall0 (hw _ _ _) ?_ | refine ago_if (by omega) ?_ | skip); simp (disch := first | exact okY | omega) only [ZU, Int.reduceNeg, dI, Nat.reduceMul, Nat.reduceAdd, AOpRun, aexec, Nat.reduceBEq, ↓eget_h, isSh, ↓reduceIte, abin, hr, ints_all, opt1, g1, run1, dB, c1, ARun_some, AG_ff, k0, AG_tt, fits, and_true, k1, g2, c2])))
            exact ⟨k + 1, ⟨by omega, hv, fun _ => b1⟩, by omega, by refine wk_q [] [] ?_ ?_ <;> repeat' (first | exact trivial | exact vr_val _ | exact vr_list _ | apply And.intro)⟩
    · obtain rfl : k = l.length := by omega
      rw [hv, List.drop_length]
      (have hg : (987654321 : Nat) - 987654321 = 0 := rfl; have hr := hg; repeat' (first | apply aw_seq | ((first | apply aw_skip | apply aw_exit); try simp only [thenQ, blockQ, if_true, if_false, Nat.reduceEqDiff, reduceCtorEq]) | apply aw_ret | apply aw_block | apply aw_condT rfl | apply aw_condF rfl | (refine aw_cond rfl (fun hg => ?_) (fun hg => ?_) <;> (try (have hq := hg; simp only [Bool.not_eq_true', Bool.not_eq_false', Bool.and_eq_true, Bool.and_eq_false_iff, Bool.or_eq_true, Bool.or_eq_false_iff, decide_eq_true_eq, decide_eq_false_iff_not, bne_iff_ne, beq_iff_eq, beq_eq_false_iff_ne, bne_eq_false_iff_eq, ne_eq, Int.not_lt, Int.not_le, Decidable.not_not] at hq)) <;> (try (have hr := hg; simp only [decide_eq_true_eq, decide_eq_false_iff_not] at hr)) <;> (try (exfalso; omega))) | ((first | refine aw_region ?_ | refine ago_if (by omega) ?_ | skip); simp (disch := first | exact okY | omega) only [ZU, Int.reduceNeg, dI, Nat.reduceMul, Nat.reduceAdd, AOpRun, aexec, Nat.reduceBEq, ↓eget_h, isSh, ↓reduceIte, abin, hr, decide_false])))
      all_goals (refine end_q [] [] ?_ ?_ <;> repeat' (first | exact trivial | exact vr_val _))
set_option maxRecDepth 100000 in
set_option maxHeartbeats 1000000 in
theorem ct1_ac (g : Int) : AC Tryd.prog 52 [dI g] [] [] (dB (!wB g (-1000000) 1000000)) := by
  refine kspans_CheckTable_S1.ac (n0 := 0) (by simp) ⟨.val _, trivial⟩ trivial rfl ?_
  unfold cspans_CheckTable_S1
  have hw : ∀ n a b : Int, AC Tryd.prog 39 [dI n, dI a, dI b] [] [] (dB (wB n a b)) := bwithin_ac
  (repeat' (first | apply aw_seq | ((first | apply aw_skip | apply aw_exit); try simp only [thenQ, blockQ, if_true, if_false, Nat.reduceEqDiff, reduceCtorEq]) | apply aw_ret | apply aw_block | apply aw_condT rfl | apply aw_condF rfl | ((first | refine aw_region ?_ | refine acall0 (hw _ _ _) ?_ | refine ago_if (by omega) ?_ | skip); simp (disch := first | exact okY | omega) only [ZU, Int.reduceNeg, dB, Nat.reduceMul, dI, AOpRun, aexec, Nat.reduceBEq, Nat.reduceAdd, ↓eget_h])))
  all_goals (refine end_q [] [] ?_ ?_ <;> repeat' (first | exact trivial | exact vr_val _))
set_option maxRecDepth 100000 in
set_option maxHeartbeats 1000000 in
theorem tabI_ac  (l : List Int) (hl : l.length ≤ 1000000) : AC Tryd.prog 70 [.list (ints l), .fn 52 [] []] [] [] (dI (ixOf (fun x => !wB x (-1000000) 1000000) l)) := by
  refine kslices_IndexFunc_L_L_Jint_Kint_J.ac (n0 := 0) (by simp) ⟨.list _, .fn _ _ _ (by simp) (by simp), trivial⟩ trivial rfl ?_
  unfold cslices_IndexFunc_L_L_Jint_Kint_J
  generalize hp : (fun x => !wB x (-1000000) 1000000) = p
  have hpa : ∀ x, p x = (fun x => !wB x (-1000000) 1000000) x := fun x => by rw [hp]
  generalize hR : ixOf p l = R
  (repeat' (first | apply aw_seq | ((first | apply aw_skip | apply aw_exit); try simp only [thenQ, blockQ, if_true, if_false, Nat.reduceEqDiff, reduceCtorEq]) | apply aw_ret | apply aw_block | apply aw_condT rfl | apply aw_condF rfl | ((first | refine aw_region ?_ | refine ago_if (by omega) ?_ | skip); simp (disch := first | exact okY | omega) only [ZU, Int.reduceNeg, Nat.reduceMul, AOpRun, aexec, Nat.reduceBEq, Nat.reduceAdd, ↓eget_h, ints_len])))
  refine aw_loop (fun k : Nat => ⟨[(0, .list (ints l)), (1, .fn 52 [] []), (7, dI l.length), (8, dI k)], [], 400⟩) (fun k => k ≤ l.length ∧ ∀ j, j < k → p (l[j]?.getD 0) = false) (fun k => l.length - k) ⟨0, ⟨by omega, by omega⟩, ?_⟩ ?_
  · refine wk_q [] [] ?_ ?_ <;> repeat' (first | exact trivial | exact vr_val _ | exact vr_list _ | apply vr_fn | apply And.intro)
  · rintro k ⟨hk, hv⟩
    by_cases hk2 : k < l.length
    · have g1 := ints_gd l k hk2
      cases hx : p (l[k]?.getD 0) with
      | true =>
        have hx2 := hx
        rw [hpa] at hx2
        rw [← hR, ixOf_some hk2 hv hx]
        (have hg : (987654321 : Nat) - 987654321 = 0 := rfl; have hr := hg; repeat' (first | apply aw_seq | ((first | apply aw_skip | apply aw_exit); try simp only [thenQ, blockQ, if_true, if_false, Nat.reduceEqDiff, reduceCtorEq]) | apply aw_ret | apply aw_block | apply aw_condT rfl | apply aw_condF rfl | (refine aw_cond rfl (fun hg => ?_) (fun hg => ?_) <;> (try (have hq := hg; simp only [Bool.not_eq_true', Bool.not_eq_false', Bool.and_eq_true, Bool.and_eq_false_iff, Bool.or_eq_true, Bool.or_eq_false_iff, decide_eq_true_eq, decide_eq_false_iff_not, bne_iff_ne, beq_iff_eq, beq_eq_false_iff_ne, bne_eq_false_iff_eq, ne_eq, Int.not_lt, Int.not_le, Decidable.not_not] at hq)) <;> (try (have hr := hg; simp only [decide_eq_true_eq, decide_eq_false_iff_not] at hr)) <;> (try (exfalso; omega))) | ((first | refine aw_region ?_ | refine acall0 (ct1_ac _) ?_ | refine ago_if (by omega) ?_ | skip); simp (disch := first | exact okY | omega) only [ZU, dI, Int.reduceNeg, Nat.reduceMul, Nat.reduceAdd, AOpRun, aexec, Nat.reduceBEq, ↓eget_h, isSh, ↓reduceIte, abin, hr, ints_all, opt1, g1, run1, dB, hx2, blockQ])))
        all_goals (refine end_q [] [] ?_ ?_ <;> repeat' (first | exact trivial | exact vr_val _))
      | false =>
        have hx2 := hx
        rw [hpa] at hx2
        (have hg : (987654321 : Nat) - 987654321 = 0 := rfl; have hr := hg; repeat' (first | apply aw_seq | ((first | apply aw_skip | apply aw_exit); try simp only [thenQ, blockQ, if_true, if_false, Nat.reduceEqDiff, reduceCtorEq]) | apply aw_ret | apply aw_block | apply aw_condT rfl | apply aw_condF rfl | (refine aw_cond rfl (fun hg => ?_) (fun hg => ?_) <;> (try (have hq := hg; simp only [Bool.not_eq_true', Bool.not_eq_false', Bool.and_eq_true, Bool.and_eq_false_iff, Bool.or_eq_true, Bool.or_eq_false_iff, decide_eq_true_eq, decide_eq_false_iff_not, bne_iff_ne, beq_iff_eq, beq_eq_false_iff_ne, bne_eq_false_iff_eq, ne_eq, Int.not_lt, Int.not_le, Decidable.not_not] at hq)) <;> (try (have hr := hg; simp only [decide_eq_true_eq, decide_eq_false_iff_not] at hr)) <;> (try (exfalso; omega))) | ((first | refine aw_region ?_ | refine acall0 (ct1_ac _) ?_ | refine ago_if (by omega) ?_ | skip); simp (disch := first | exact okY | omega) only [ZU, dI, Int.reduceNeg, Nat.reduceMul, Nat.reduceAdd, AOpRun, aexec, Nat.reduceBEq, ↓eget_h, isSh, ↓reduceIte, abin, hr, ints_all, opt1, g1, run1, dB, hx2, fits])))
        exact ⟨k + 1, ⟨by omega, prev_next hv hx⟩, by omega, by refine wk_q [] [] ?_ ?_ <;> repeat' (first | exact trivial | exact vr_val _ | exact vr_list _ | apply vr_fn | apply And.intro)⟩
    · obtain rfl : k = l.length := by omega
      rw [← hR, ixOf_none hv]
      (have hg : (987654321 : Nat) - 987654321 = 0 := rfl; have hr := hg; repeat' (first | apply aw_seq | ((first | apply aw_skip | apply aw_exit); try simp only [thenQ, blockQ, if_true, if_false, Nat.reduceEqDiff, reduceCtorEq]) | apply aw_ret | apply aw_block | apply aw_condT rfl | apply aw_condF rfl | (refine aw_cond rfl (fun hg => ?_) (fun hg => ?_) <;> (try (have hq := hg; simp only [Bool.not_eq_true', Bool.not_eq_false', Bool.and_eq_true, Bool.and_eq_false_iff, Bool.or_eq_true, Bool.or_eq_false_iff, decide_eq_true_eq, decide_eq_false_iff_not, bne_iff_ne, beq_iff_eq, beq_eq_false_iff_ne, bne_eq_false_iff_eq, ne_eq, Int.not_lt, Int.not_le, Decidable.not_not] at hq)) <;> (try (have hr := hg; simp only [decide_eq_true_eq, decide_eq_false_iff_not] at hr)) <;> (try (exfalso; omega))) | ((first | refine aw_region ?_ | refine ago_if (by omega) ?_ | skip); simp (disch := first | exact okY | omega) only [ZU, dI, Int.reduceNeg, Nat.reduceMul, Nat.reduceAdd, AOpRun, aexec, Nat.reduceBEq, ↓eget_h, isSh, ↓reduceIte, abin, hr, decide_false])))
      all_goals (refine end_q [] [] ?_ ?_ <;> repeat' (first | exact trivial | exact vr_val _))
set_option maxRecDepth 100000 in
set_option maxHeartbeats 1000000 in
theorem tabC_ac  (l : List Int) (hl : l.length ≤ 1000000) : AC Tryd.prog 54 [.list (ints l), .fn 52 [] []] [] [] (dB (l.any (fun x => !wB x (-1000000) 1000000))) := by
  refine kslices_ContainsFunc_L_L_Jint_Kint_J.ac (n0 := 0) (by simp) ⟨.list _, .fn _ _ _ (by simp) (by simp), trivial⟩ trivial rfl ?_
  unfold cslices_ContainsFunc_L_L_Jint_Kint_J
  rw [← ixOf_ge]
  (repeat' (first | apply aw_seq | ((first | apply aw_skip | apply aw_exit); try simp only [thenQ, blockQ, if_true, if_false, Nat.reduceEqDiff, reduceCtorEq]) | apply aw_ret | apply aw_block | apply aw_condT rfl | apply aw_condF rfl | ((first | refine aw_region ?_ | refine acall0 (tabI_ac  l hl) ?_ | refine ago_if (by omega) ?_ | skip); simp (disch := first | exact okY | omega) only [ZU, Int.reduceNeg, Nat.reduceMul, AOpRun, aexec, Nat.reduceBEq, Nat.reduceAdd, ↓eget_h, dI, isSh, ↓reduceIte, abin])))
  all_goals (refine end_q [] [] ?_ ?_ <;> repeat' (first | exact trivial | exact vr_val _))
def tabC (xs ys : List Int) (vs : List (List Int)) : List D := [.list (ints xs), .list (ints ys), .list (rows vs)]
theorem tabC_in (xs ys : List Int) (vs : List (List Int)) (n : Nat) : ∀ d ∈ tabC xs ys vs, In (· < n) d := by
  intro d hd
  simp only [tabC, List.mem_cons, List.not_mem_nil, or_false] at hd
  rcases hd with rfl | rfl | rfl <;> exact .list _
theorem hin2 (xs ys : List Int) (vs : List (List Int)) : allHp 24 [(0, tabC xs ys vs), (16, [.fn 52 [] []])] :=
  ⟨⟨by omega, tabC_in _ _ _ _⟩, ⟨by omega, by intro d hd; simp at hd; subst hd; exact .fn _ _ _ (by simp) (by simp)⟩, trivial⟩
set_option maxRecDepth 100000 in
set_option maxHeartbeats 1000000 in
theorem ct2_ac (xs ys : List Int) (vs : List (List Int)) (r : List Int) (hyl : ys.length ≤ 12) : AC Tryd.prog 53 [.list (ints r), .ptr 0 0, .ptr 16 0] [(0, tabC xs ys vs), (16, [.fn 52 [] []])] [(0, some (tabC xs ys vs)), (16, some [.fn 52 [] []])] (dB (rowBad ys.length r)) := by
  refine kspans_CheckTable_S2.ac (n0 := 24) (by simp) ⟨.list _, .ptr _ _ (by omega), .ptr _ _ (by omega), trivial⟩ (hin2 xs ys vs) rfl ?_
  unfold cspans_CheckTable_S2 tabC
  by_cases hl : r.length = ys.length
  · have h1 : ((r.length : Int) != (ys.length : Int)) = false := by simp; omega
    have e : rowBad ys.length r = r.any (fun x => !wB x (-1000000) 1000000) := by unfold rowBad; rw [h1]; rfl
    rw [e]
    (repeat' (first | apply aw_seq | ((first | apply aw_skip | apply aw_exit); try simp only [thenQ, blockQ, if_true, if_false, Nat.reduceEqDiff, reduceCtorEq]) | apply aw_ret | apply aw_block | apply aw_condT rfl | apply aw_condF rfl | ((first | refine aw_region ?_ | refine acall0 (tabC_ac r (by omega)) ?_ | refine ago_if (by omega) ?_ | skip); simp (disch := first | exact okY | omega) only [ZU, Int.reduceNeg, Nat.reduceMul, Nat.reduceAdd, AOpRun, aexec, Nat.reduceBEq, ↓eget_h, ints_len, run1, isSh, ↓reduceIte, abin, h1, ARun_some, AG_ff, ↓hget_h])))
    all_goals (refine end_q [] [(0, 0), (16, 16)] ?_ ?_ <;> repeat' (first | exact trivial | exact vr_val _ | exact vr_list _ | apply vr_fn | refine And.intro ⟨_, rfl, _, rfl, by decide, ?_⟩ ?_ | apply And.intro))
  · have h1 : ((r.length : Int) != (ys.length : Int)) = true := by simp; omega
    have e : rowBad ys.length r = true := by unfold rowBad; rw [h1]; rfl
    rw [e]
    (repeat' (first | apply aw_seq | ((first | apply aw_skip | apply aw_exit); try simp only [thenQ, blockQ, if_true, if_false, Nat.reduceEqDiff, reduceCtorEq]) | apply aw_ret | apply aw_block | apply aw_condT rfl | apply aw_condF rfl | ((first | refine aw_region ?_ | refine ago_if (by omega) ?_ | skip); simp (disch := first | exact okY | omega) only [ZU, Nat.reduceMul, Nat.reduceAdd, AOpRun, aexec, Nat.reduceBEq, ↓eget_h, ints_len, run1, isSh, ↓reduceIte, abin, h1, ARun_some, AG_tf])))
    all_goals (refine end_q [] [(0, 0), (16, 16)] ?_ ?_ <;> repeat' (first | exact trivial | exact vr_val _ | exact vr_list _ | apply vr_fn | refine And.intro ⟨_, rfl, _, rfl, by decide, ?_⟩ ?_ | apply And.intro))
set_option maxRecDepth 100000 in
set_option maxHeartbeats 1000000 in
theorem rowI_ac (xs ys : List Int) (vs : List (List Int)) (hyl : ys.length ≤ 12) (l : List (List Int)) (hl : l.length ≤ 1000000) : AC Tryd.prog 71 [.list (rows l), .fn 53 [] [.ptr 0 0, .ptr 16 0]] [(0, tabC xs ys vs), (16, [.fn 52 [] []])] [(0, some (tabC xs ys vs)), (16, some [.fn 52 [] []])] (dI (ixOf (rowBad ys.length) l)) := by
  refine kslices_IndexFunc_L_L_J_L_Jint_K_L_Jint_J.ac (n0 := 24) (by simp) ⟨.list _, .fn _ _ _ (by simp) (by intro d hd; simp at hd; rcases hd with rfl | rfl <;> exact .ptr _ _ (by omega)), trivial⟩ (hin2 xs ys vs) rfl ?_
  unfold cslices_IndexFunc_L_L_J_L_Jint_K_L_Jint_J
  generalize hp : (rowBad ys.length) = p
  have hpa : ∀ x, p x = (rowBad ys.length) x := fun x => by rw [hp]
  generalize hR : ixOf p l = R
  (repeat' (first | apply aw_seq | ((first | apply aw_skip | apply aw_exit); try simp only [thenQ, blockQ, if_true, if_false, Nat.reduceEqDiff, reduceCtorEq]) | apply aw_ret | apply aw_block | apply aw_condT rfl | apply aw_condF rfl | ((first | refine aw_region ?_ | refine ago_if (by omega) ?_ | skip); simp (disch := first | exact okY | omega) only [ZU, Int.reduceNeg, Nat.reduceMul, Nat.reduceAdd, AOpRun, aexec, Nat.reduceBEq, ↓eget_h, rows_len])))
  refine aw_loop (fun k : Nat => ⟨[(0, .list (rows l)), (1, .fn 53 [] [.ptr 0 0, .ptr 16 0]), (7, dI l.length), (8, dI k)], [(0, tabC xs ys vs), (16, [.fn 52 [] []])], 400⟩) (fun k => k ≤ l.length ∧ ∀ j, j < k → p (l[j]?.getD []) = false) (fun k => l.length - k) ⟨0, ⟨by omega, by omega⟩, ?_⟩ ?_
  · refine wk_q [] [(0, 0), (16, 16)] ?_ ?_ <;> repeat' (first | exact trivial | exact vr_val _ | exact vr_list _ | exact vr_ptr _ _ _ rfl | apply vr_fn | refine And.intro ⟨_, rfl, .inl ⟨_, rfl, by decide, ?_⟩⟩ ?_ | apply And.intro)
  · rintro k ⟨hk, hv⟩
    by_cases hk2 : k < l.length
    · have g1 := rows_gd l k hk2
      cases hx : p (l[k]?.getD []) with
      | true =>
        have hx2 := hx
        rw [hpa] at hx2
        rw [← hR, ixOf_some hk2 hv hx]
        (have hg : (987654321 : Nat) - 987654321 = 0 := rfl; have hr := hg; repeat' (first | apply aw_seq | ((first | apply aw_skip | apply aw_exit); try simp only [thenQ, blockQ, if_true, if_false, Nat.reduceEqDiff, reduceCtorEq]) | apply aw_ret | apply aw_block | apply aw_condT rfl | apply aw_condF rfl | (refine aw_cond rfl (fun hg => ?_) (fun hg => ?_) <;> (try (have hq := hg; simp only [Bool.not_eq_true', Bool.not_eq_false', Bool.and_eq_true, Bool.and_eq_false_iff, Bool.or_eq_true, Bool.or_eq_false_iff, decide_eq_true_eq, decide_eq_false_iff_not, bne_iff_ne, beq_iff_eq, beq_eq_false_iff_ne, bne_eq_false_iff_eq, ne_eq, Int.not_lt, Int.not_le, Decidable.not_not] at hq)) <;> (try (have hr := hg; simp only [decide_eq_true_eq, decide_eq_false_iff_not] at hr)) <;> (try (exfalso; omega))) | ((first | refine aw_region ?_ | refine acallB (ct2_ac xs ys vs _ hyl) (by repeat' (first | exact trivial | exact rfl | refine And.intro ?_ ?_)) (by kernel_rfl) (by kernel_rfl) (by kernel_rfl) ?_ | refine ago_if (by omega) ?_ | skip); simp (disch := first | exact okY | omega) only [ZU, dI, Int.reduceNeg, Nat.reduceMul, Nat.reduceAdd, AOpRun, aexec, Nat.reduceBEq, ↓eget_h, isSh, ↓reduceIte, abin, hr, rows_all, opt1, g1, run1, dB, hx2, blockQ])))
        all_goals (refine end_q [] [(0, 0), (16, 16)] ?_ ?_ <;> repeat' (first | exact trivial | exact vr_val _ | exact vr_list _ | apply vr_fn | refine And.intro ⟨_, rfl, _, rfl, by decide, ?_⟩ ?_ | apply And.intro))
      | false =>
        have hx2 := hx
        rw [hpa] at hx2
        (have hg : (987654321 : Nat) - 987654321 = 0 := rfl; have hr := hg; repeat' (first | apply aw_seq | ((first | apply aw_skip | apply aw_exit); try simp only [thenQ, blockQ, if_true, if_false, Nat.reduceEqDiff, reduceCtorEq]) | apply aw_ret | apply aw_block | apply aw_condT rfl | apply aw_condF rfl | (refine aw_cond rfl (fun hg => ?_) (fun hg => ?_) <;> (try (have hq := hg; simp only [Bool.not_eq_true', Bool.not_eq_false', Bool.and_eq_true, Bool.and_eq_false_iff, Bool.or_eq_true, Bool.or_eq_false_iff, decide_eq_true_eq, decide_eq_false_iff_not, bne_iff_ne, beq_iff_eq, beq_eq_false_iff_ne, bne_eq_false_iff_eq, ne_eq, Int.not_lt, Int.not_le, Decidable.not_not] at hq)) <;> (try (have hr := hg; simp only [decide_eq_true_eq, decide_eq_false_iff_not] at hr)) <;> (try (exfalso; omega))) | ((first | refine aw_region ?_ | refine acallB (ct2_ac xs ys vs _ hyl) (by repeat' (first | exact trivial | exact rfl | refine And.intro ?_ ?_)) (by kernel_rfl) (by kernel_rfl) (by kernel_rfl) ?_ | refine ago_if (by omega) ?_ | skip); simp (disch := first | exact okY | omega) only [ZU, dI, Int.reduceNeg, Nat.reduceMul, Nat.reduceAdd, AOpRun, aexec, Nat.reduceBEq, ↓eget_h, isSh, ↓reduceIte, abin, hr, rows_all, opt1, g1, run1, dB, hx2, fits])))
        exact ⟨k + 1, ⟨by omega, prev_next hv hx⟩, by omega, by refine wk_q [] [(0, 0), (16, 16)] ?_ ?_ <;> repeat' (first | exact trivial | exact vr_val _ | exact vr_list _ | exact vr_ptr _ _ _ rfl | apply vr_fn | refine And.intro ⟨_, rfl, .inl ⟨_, rfl, by decide, ?_⟩⟩ ?_ | apply And.intro)⟩
    · obtain rfl : k = l.length := by omega
      rw [← hR, ixOf_none hv]
      (have hg : (987654321 : Nat) - 987654321 = 0 := rfl; have hr := hg; repeat' (first | apply aw_seq | ((first | apply aw_skip | apply aw_exit); try simp only [thenQ, blockQ, if_true, if_false, Nat.reduceEqDiff, reduceCtorEq]) | apply aw_ret | apply aw_block | apply aw_condT rfl | apply aw_condF rfl | (refine aw_cond rfl (fun hg => ?_) (fun hg => ?_) <;> (try (have hq := hg; simp only [Bool.not_eq_true', Bool.not_eq_false', Bool.and_eq_true, Bool.and_eq_false_iff, Bool.or_eq_true, Bool.or_eq_false_iff, decide_eq_true_eq, decide_eq_false_iff_not, bne_iff_ne, beq_iff_eq, beq_eq_false_iff_ne, bne_eq_false_iff_eq, ne_eq, Int.not_lt, Int.not_le, Decidable.not_not] at hq)) <;> (try (have hr := hg; simp only [decide_eq_true_eq, decide_eq_false_iff_not] at hr)) <;> (try (exfalso; omega))) | ((first | refine aw_region ?_ | refine ago_if (by omega) ?_ | skip); simp (disch := first | exact okY | omega) only [ZU, dI, Int.reduceNeg, Nat.reduceMul, Nat.reduceAdd, AOpRun, aexec, Nat.reduceBEq, ↓eget_h, isSh, ↓reduceIte, abin, hr, decide_false])))
      all_goals (refine end_q [] [(0, 0), (16, 16)] ?_ ?_ <;> repeat' (first | exact trivial | exact vr_val _ | exact vr_list _ | apply vr_fn | refine And.intro ⟨_, rfl, _, rfl, by decide, ?_⟩ ?_ | apply And.intro))
set_option maxRecDepth 100000 in
set_option maxHeartbeats 1000000 in
theorem rowC_ac (xs ys : List Int) (vs : List (List Int)) (hyl : ys.length ≤ 12) (l : List (List Int)) (hl : l.length ≤ 1000000) : AC Tryd.prog 56 [.list (rows l), .fn 53 [] [.ptr 0 0, .ptr 16 0]] [(0, tabC xs ys vs), (16, [.fn 52 [] []])] [(0, some (tabC xs ys vs)), (16, some [.fn 52 [] []])] (dB (l.any (rowBad ys.length))) := by
  refine kslices_ContainsFunc_L_L_J_L_Jint_K_L_Jint_J.ac (n0 := 24) (by simp) ⟨.list _, .fn _ _ _ (by simp) (by intro d hd; simp at hd; rcases hd with rfl | rfl <;> exact .ptr _ _ (by omega)), trivial⟩ (hin2 xs ys vs) rfl ?_
  unfold cslices_ContainsFunc_L_L_J_L_Jint_K_L_Jint_J
  rw [← ixOf_ge]
  (repeat' (first | apply aw_seq | ((first | apply aw_skip | apply aw_exit); try simp only [thenQ, blockQ, if_true, if_false, Nat.reduceEqDiff, reduceCtorEq]) | apply aw_ret | apply aw_block | apply aw_condT rfl | apply aw_condF rfl | ((first | refine aw_region ?_ | refine acallB (rowI_ac xs ys vs hyl l hl) (by repeat' (first | exact trivial | exact rfl | refine And.intro ?_ ?_)) (by kernel_rfl) (by kernel_rfl) (by kernel_rfl) ?_ | refine ago_if (by omega) ?_ | skip); simp (disch := first | exact okY | omega) only [ZU, Nat.reduceMul, Nat.reduceAdd, AOpRun, aexec, Nat.reduceBEq, ↓eget_h, dI, isSh, ↓reduceIte, abin])))
  all_goals (refine end_q [] [(0, 0), (16, 16)] ?_ ?_ <;> repeat' (first | exact trivial | exact vr_val _ | exact vr_list _ | apply vr_fn | refine And.intro ⟨_, rfl, _, rfl, by decide, ?_⟩ ?_ | apply And.intro))
set_option maxRecDepth 100000 in
set_option maxHeartbeats 1000000 in
theorem checkTable_ac (xs ys : List Int) (vs : List (List Int)) (hx : ∀ x ∈ xs, -9223372036854775808 ≤ x ∧ x ≤ 9223372036854775807) (hy : ∀ x ∈ ys, -9223372036854775808 ≤ x ∧ x ≤ 9223372036854775807) : AC Tryd.prog 33 [tabD xs ys vs] [] [] (dI (tabErr xs ys vs)) := by
  refine kspans_CheckTable.ac (n0 := 0) (by simp) ⟨.agg _ (by intro d hd; simp at hd; rcases hd with rfl | rfl | rfl <;> exact .list _), trivial⟩ trivial rfl ?_
  unfold cspans_CheckTable tabD
  have ax := axis_ac xs hx
  have ay := axis_ac ys hy
  cases h1 : axB xs with
  | false =>
    have e : tabErr xs ys vs = 11 := by unfold tabErr tabB; rw [h1]; rfl
    rw [e]
    (repeat' (first | apply aw_seq | ((first | apply aw_skip | apply aw_exit); try simp only [thenQ, blockQ, if_true, if_false, Nat.reduceEqDiff, reduceCtorEq]) | apply aw_ret | apply aw_block | apply aw_condT rfl | apply aw_condF rfl | ((first | refine aw_region ?_ | refine acall0 (ax) ?_ | refine acall0 (ay) ?_ | refine ago_if (by omega) ?_ | skip); simp (disch := first | exact okY | omega) only [ZU, dI, Nat.reduceAdd, Nat.reduceMul, AOpRun, aexec, D.isBot, ↓eget_h, or_self, ↓reduceIte, D.cells, Nat.reduceBEq, ↓hget_h, Nat.reduceLeDiff, List.all, D.leaf, splice, List.take, List.drop, run1, dB, h1, ARun_some, AG_tf])))
    all_goals (refine end_q [] [] ?_ ?_ <;> repeat' (first | exact trivial | exact vr_val _))
  | true =>
  cases h2 : axB ys with
  | false =>
    have e : tabErr xs ys vs = 11 := by unfold tabErr tabB; rw [h1, h2]; rfl
    rw [e]
    (repeat' (first | apply aw_seq | ((first | apply aw_skip | apply aw_exit); try simp only [thenQ, blockQ, if_true, if_false, Nat.reduceEqDiff, reduceCtorEq]) | apply aw_ret | apply aw_block | apply aw_condT rfl | apply aw_condF rfl | ((first | refine aw_region ?_ | refine acall0 (ax) ?_ | refine acall0 (ay) ?_ | refine ago_if (by omega) ?_ | skip); simp (disch := first | exact okY | omega) only [ZU, dI, Nat.reduceAdd, Nat.reduceMul, AOpRun, aexec, D.isBot, ↓eget_h, or_self, ↓reduceIte, D.cells, Nat.reduceBEq, ↓hget_h, Nat.reduceLeDiff, List.all, D.leaf, splice, List.take, List.drop, run1, dB, h1, ARun_some, AG_ff, h2, AG_tf])))
    all_goals (refine end_q [] [] ?_ ?_ <;> repeat' (first | exact trivial | exact vr_val _))
  | true =>
  have x12 : 2 ≤ xs.length ∧ xs.length ≤ 12 := by
    unfold axB at h1
    have := wB_iff.1 (Bool.and_eq_true _ _ |>.mp h1).1
    omega
  have y12 : 2 ≤ ys.length ∧ ys.length ≤ 12 := by
    unfold axB at h2
    have := wB_iff.1 (Bool.and_eq_true _ _ |>.mp h2).1
    omega
  cases h3 : ((vs.length : Int) != (xs.length : Int)) with
  | true =>
    have e : tabErr xs ys vs = 11 := by unfold tabErr tabB; rw [h1, h2, h3]; rfl
    rw [e]
    (repeat' (first | apply aw_seq | ((first | apply aw_skip | apply aw_exit); try simp only [thenQ, blockQ, if_true, if_false, Nat.reduceEqDiff, reduceCtorEq]) | apply aw_ret | apply aw_block | apply aw_condT rfl | apply aw_condF rfl | ((first | refine aw_region ?_ | refine acall0 (ax) ?_ | refine acall0 (ay) ?_ | refine ago_if (by omega) ?_ | skip); simp (disch := first | exact okY | omega) only [ZU, dI, Nat.reduceAdd, Nat.reduceMul, AOpRun, aexec, D.isBot, ↓eget_h, or_self, ↓reduceIte, D.cells, Nat.reduceBEq, ↓hget_h, Nat.reduceLeDiff, List.all, D.leaf, splice, List.take, List.drop, run1, dB, h1, ARun_some, AG_ff, h2, rows_len, ints_len, isSh, abin, h3, AG_tf])))
    all_goals (refine end_q [] [] ?_ ?_ <;> repeat' (first | exact trivial | exact vr_val _))
  | false =>
  have hl : vs.length = xs.length := by simp at h3; omega
  have hrow := rowC_ac xs ys vs y12.2 vs (by omega)
  unfold tabC at hrow
  cases h4 : vs.any (rowBad ys.length) with
  | true =>
    have e : tabErr xs ys vs = 11 := by unfold tabErr tabB; rw [h1, h2, h3, h4]; rfl
    rw [e]
    (repeat' (first | apply aw_seq | ((first | apply aw_skip | apply aw_exit); try simp only [thenQ, blockQ, if_true, if_false, Nat.reduceEqDiff, reduceCtorEq]) | apply aw_ret | apply aw_block | apply aw_condT rfl | apply aw_condF rfl | ((first | refine aw_region ?_ | refine acall0 (ax) ?_ | refine acall0 (ay) ?_ | refine acallB (hrow) (by repeat' (first | exact trivial | exact rfl | refine And.intro ?_ ?_)) (by kernel_rfl) (by kernel_rfl) (by kernel_rfl) ?_ | refine ago_if (by omega) ?_ | skip); simp (disch := first | exact okY | omega) only [ZU, dI, Nat.reduceAdd, Nat.reduceMul, AOpRun, aexec, D.isBot, ↓eget_h, or_self, ↓reduceIte, D.cells, Nat.reduceBEq, ↓hget_h, Nat.reduceLeDiff, List.all, D.leaf, splice, List.take, List.drop, run1, dB, h1, ARun_some, AG_ff, h2, rows_len, ints_len, isSh, abin, h3, h4])))
    all_goals (refine end_q [] [] ?_ ?_ <;> repeat' (first | exact trivial | exact vr_val _))
  | false =>
    have e : tabErr xs ys vs = 0 := by unfold tabErr tabB; rw [h1, h2, h3, h4]; rfl
    rw [e]
    (repeat' (first | apply aw_seq | ((first | apply aw_skip | apply aw_exit); try simp only [thenQ, blockQ, if_true, if_false, Nat.reduceEqDiff, reduceCtorEq]) | apply aw_ret | apply aw_block | apply aw_condT rfl | apply aw_condF rfl | ((first | refine aw_region ?_ | refine acall0 (ax) ?_ | refine acall0 (ay) ?_ | refine acallB (hrow) (by repeat' (first | exact trivial | exact rfl | refine And.intro ?_ ?_)) (by kernel_rfl) (by kernel_rfl) (by kernel_rfl) ?_ | refine ago_if (by omega) ?_ | skip); simp (disch := first | exact okY | omega) only [ZU, dI, Nat.reduceAdd, Nat.reduceMul, AOpRun, aexec, D.isBot, ↓eget_h, or_self, ↓reduceIte, D.cells, Nat.reduceBEq, ↓hget_h, Nat.reduceLeDiff, List.all, D.leaf, splice, List.take, List.drop, run1, dB, h1, ARun_some, AG_ff, h2, rows_len, ints_len, isSh, abin, h3, h4])))
    all_goals (refine end_q [] [] ?_ ?_ <;> repeat' (first | exact trivial | exact vr_val _))
end Go.Proofs.YtgibbaadjbohdaaDoor
/- At each point of a box the value of a table lies between the ends of its bound. In numbers; no conditions. -/
namespace Go.Proofs.YtgibbaadjbohdaaDoor

def flo (xs ys : List Int) (vs : List (List Int)) (x y : Int) : Int := atN xs ys vs x y / atD xs ys x y
def cei (xs ys : List Int) (vs : List (List Int)) (x y : Int) : Int := -(-(atN xs ys vs x y) / atD xs ys x y)
theorem Axis.cell_or {l : List Int} (h : Axis l) {x : Int} {i : Nat} (hi : i + 2 ≤ l.length) (h1 : l[i]?.getD 0 ≤ x) (h2 : x ≤ l[i+1]?.getD 0) : cellI l x = i ∨ (i = cellI l x + 1 ∧ x = l[i]?.getD 0) := by
  by_cases hc : 0 < i → l[i]?.getD 0 < x
  · exact .inl (h.cellI_eq ⟨hi, hc, fun _ => h2⟩)
  · have hpos : 0 < i := by
      rcases Nat.eq_zero_or_pos i with h0 | h0
      · exact absurd (fun hh => by omega) hc
      · exact h0
    have hx : x = l[i]?.getD 0 := by
      by_cases hlt : l[i]?.getD 0 < x
      · exact absurd (fun _ => hlt) hc
      · omega
    obtain ⟨j, rfl⟩ := Nat.exists_eq_succ_of_ne_zero (by omega : i ≠ 0)
    refine .inr ⟨?_, hx⟩
    have := h.cellI_eq (x := x) (i := j) ⟨by omega, fun _ => by have := h.gap j (by omega); simp only [Nat.succ_eq_add_one] at hx; omega, fun _ => by simp only [Nat.succ_eq_add_one] at hx; omega⟩
    rw [this]
def nX (xs ys : List Int) (vs : List (List Int)) (i k : Nat) (x y : Int) : Int := numF (xs[i+1]?.getD 0 - x) (x - xs[i]?.getD 0) (ys[k+1]?.getD 0 - y) (y - ys[k]?.getD 0)
    ((vs[i]?.getD [])[k]?.getD 0) ((vs[i+1]?.getD [])[k]?.getD 0) ((vs[i]?.getD [])[k+1]?.getD 0) ((vs[i+1]?.getD [])[k+1]?.getD 0)
def dX (xs ys : List Int) (i k : Nat) : Int := (xs[i+1]?.getD 0 - xs[i]?.getD 0) * (ys[k+1]?.getD 0 - ys[k]?.getD 0)
theorem dX_pos {xs ys : List Int} (hx : Axis xs) (hy : Axis ys) {i k : Nat} (hi : i + 2 ≤ xs.length) (hk : k + 2 ≤ ys.length) : 1 ≤ dX xs ys i k := by
  have h1 := hx.gap i (by omega)
  have h2 := hy.gap k (by omega)
  unfold dX
  have := Int.mul_le_mul h1.1 h2.1 (by omega) (by omega)
  omega
theorem val_any {xs ys : List Int} {vs : List (List Int)} (hT : Tbl xs ys vs) {x y : Int} {i k : Nat} (hi : i + 2 ≤ xs.length) (hk : k + 2 ≤ ys.length) (x1 : xs[i]?.getD 0 ≤ x) (x2 : x ≤ xs[i+1]?.getD 0) (y1 : ys[k]?.getD 0 ≤ y) (y2 : y ≤ ys[k+1]?.getD 0) :
    atN xs ys vs x y * dX xs ys i k = nX xs ys vs i k x y * atD xs ys x y := by
  have hx := hT.ax.cell_or hi x1 x2
  have hy := hT.ay.cell_or hk y1 y2
  unfold atN atD nX dX numF denF
  simp only
  clear x1 x2 y1 y2
  generalize cellI xs x = i' at *
  generalize cellI ys y = k' at *
  rcases hx with rfl | ⟨rfl, hx2⟩ <;> rcases hy with rfl | ⟨rfl, hy2⟩
  · grind
  · generalize xs[i']?.getD 0 = x0 at *
    generalize xs[i'+1]?.getD 0 = x1 at *
    generalize ys[k']?.getD 0 = y0 at *
    generalize ys[k'+1]?.getD 0 = y1 at *
    generalize ys[k'+1+1]?.getD 0 = y2 at *
    subst hy2
    grind
  · generalize xs[i']?.getD 0 = x0 at *
    generalize xs[i'+1]?.getD 0 = x1 at *
    generalize xs[i'+1+1]?.getD 0 = x2 at *
    generalize ys[k']?.getD 0 = y0 at *
    generalize ys[k'+1]?.getD 0 = y1 at *
    subst hx2
    grind
  · generalize xs[i']?.getD 0 = x0 at *
    generalize xs[i'+1]?.getD 0 = x1 at *
    generalize xs[i'+1+1]?.getD 0 = x2 at *
    generalize ys[k']?.getD 0 = y0 at *
    generalize ys[k'+1]?.getD 0 = y1 at *
    generalize ys[k'+1+1]?.getD 0 = y2 at *
    subst hx2 hy2
    grind
theorem stops_near {l : List Int} (h : Axis l) {lo hi x : Int} (h1 : l[0]?.getD 0 ≤ lo) (h2 : hi ≤ l[l.length-1]?.getD 0) (h3 : lo ≤ x) (h4 : x ≤ hi) :
    ∃ (i : Nat) (x1 x2 : Int), i + 2 ≤ l.length ∧ x1 ∈ stopsL l lo hi ∧ x2 ∈ stopsL l lo hi ∧ l[i]?.getD 0 ≤ x1 ∧ x1 ≤ x ∧ x ≤ x2 ∧ x2 ≤ l[i+1]?.getD 0 := by
  obtain ⟨c1, c2, c3⟩ := h.cellI_at x
  generalize cellI l x = i at *
  have a1 : l[i]?.getD 0 ≤ x := by
    rcases Nat.eq_zero_or_pos i with h0 | h0
    · subst h0; omega
    · have := c2 h0; omega
  have a2 : x ≤ l[i+1]?.getD 0 := by
    by_cases hlt : i + 2 < l.length
    · exact c3 hlt
    · have : l.length - 1 = i + 1 := by omega
      rw [this] at h2; omega
  have m1 : l[i]?.getD 0 ∈ l := by simp [show i < l.length by omega]
  have m2 : l[i+1]?.getD 0 ∈ l := by simp [show i + 1 < l.length by omega]
  have hmem : ∀ z, z = lo ∨ (z ∈ l ∧ lo < z ∧ z < hi) ∨ (lo < hi ∧ z = hi) → z ∈ stopsL l lo hi := by
    intro z hz
    unfold stopsL midL
    simp only [List.cons_append, List.mem_cons, List.mem_append, List.mem_filter, Bool.and_eq_true, decide_eq_true_eq]
    rcases hz with hz | ⟨hz1, hz2, hz3⟩ | ⟨hz1, hz2⟩
    · exact .inl hz
    · exact .inr (.inl ⟨hz1, hz2, hz3⟩)
    · exact .inr (.inr (by rw [if_pos hz1]; simp [hz2]))
  refine ⟨i, max lo (l[i]?.getD 0), min hi (l[i+1]?.getD 0), c1, ?_, ?_, by omega, by omega, by omega, by omega⟩
  · by_cases q1 : l[i]?.getD 0 ≤ lo
    · exact hmem _ (.inl (by omega))
    · by_cases q2 : l[i]?.getD 0 < hi
      · have e : max lo (l[i]?.getD 0) = l[i]?.getD 0 := by omega
        rw [e]; exact hmem _ (.inr (.inl ⟨m1, by omega, q2⟩))
      · exact hmem _ (.inr (.inr ⟨by omega, by omega⟩))
  · by_cases q1 : hi ≤ l[i+1]?.getD 0
    · by_cases q2 : lo < hi
      · exact hmem _ (.inr (.inr ⟨q2, by omega⟩))
      · exact hmem _ (.inl (by omega))
    · by_cases q2 : lo < l[i+1]?.getD 0
      · have e : min hi (l[i+1]?.getD 0) = l[i+1]?.getD 0 := by omega
        rw [e]; exact hmem _ (.inr (.inl ⟨m2, q2, by omega⟩))
      · exact hmem _ (.inl (by omega))
theorem lin {P Q b a x1 x x2 : Int} (h1 : x1 ≤ x) (h2 : x ≤ x2) :
    ((b - x1) * P + (x1 - a) * Q ≤ (b - x) * P + (x - a) * Q ∧ (b - x) * P + (x - a) * Q ≤ (b - x2) * P + (x2 - a) * Q) ∨
    ((b - x2) * P + (x2 - a) * Q ≤ (b - x) * P + (x - a) * Q ∧ (b - x) * P + (x - a) * Q ≤ (b - x1) * P + (x1 - a) * Q) := by
  have e1 : ((b - x) * P + (x - a) * Q) - ((b - x1) * P + (x1 - a) * Q) = (x - x1) * (Q - P) := by grind
  have e2 : ((b - x2) * P + (x2 - a) * Q) - ((b - x) * P + (x - a) * Q) = (x2 - x) * (Q - P) := by grind
  by_cases hq : 0 ≤ Q - P
  · have p1 := Int.mul_nonneg (by omega : 0 ≤ x - x1) hq
    have p2 := Int.mul_nonneg (by omega : 0 ≤ x2 - x) hq
    exact .inl ⟨by omega, by omega⟩
  · have p1 := Int.mul_nonneg (by omega : 0 ≤ x - x1) (by omega : 0 ≤ -(Q - P))
    have p2 := Int.mul_nonneg (by omega : 0 ≤ x2 - x) (by omega : 0 ≤ -(Q - P))
    rw [Int.mul_neg] at p1 p2
    exact .inr ⟨by omega, by omega⟩
theorem fc_mono {n m D : Int} (hD : 1 ≤ D) (h : n ≤ m) : n / D ≤ m / D ∧ -(-n / D) ≤ -(-m / D) := by
  have h1 := Int.ediv_le_ediv (by omega : 0 < D) h
  have h2 := Int.ediv_le_ediv (by omega : 0 < D) (by omega : -m ≤ -n)
  exact ⟨h1, by omega⟩
theorem fc_eq {xs ys : List Int} {vs : List (List Int)} (hT : Tbl xs ys vs) {x y : Int} {i k : Nat} (hx : OnAx xs x) (hy : OnAx ys y) (hi : i + 2 ≤ xs.length) (hk : k + 2 ≤ ys.length) (x1 : xs[i]?.getD 0 ≤ x) (x2 : x ≤ xs[i+1]?.getD 0) (y1 : ys[k]?.getD 0 ≤ y) (y2 : y ≤ ys[k+1]?.getD 0) :
    flo xs ys vs x y = nX xs ys vs i k x y / dX xs ys i k ∧ cei xs ys vs x y = -(-(nX xs ys vs i k x y) / dX xs ys i k) := by
  have hv := val_any hT hi hk x1 x2 y1 y2
  have hb := at_bd hT hx hy
  have hd := dX_pos hT.ax hT.ay hi hk
  exact ⟨floor_cross hb.1 hd hv, ceil_cross hb.1 hd hv⟩
theorem onAx_in {l : List Int} (h : Axis l) {i : Nat} (hi : i + 2 ≤ l.length) {x : Int} (h1 : l[i]?.getD 0 ≤ x) (h2 : x ≤ l[i+1]?.getD 0) : OnAx l x :=
  ⟨by have := h.mono 0 i (by omega) (by omega); omega, by have := h.mono (i + 1) (l.length - 1) (by omega) (by omega); omega⟩
theorem inside {xs ys : List Int} {vs : List (List Int)} (hT : Tbl xs ys vs) {X Y : Int × Int} {x y L H : Int} (a1 : xs[0]?.getD 0 ≤ X.1) (a2 : X.2 ≤ xs[xs.length-1]?.getD 0) (a3 : X.1 ≤ x) (a4 : x ≤ X.2) (b1 : ys[0]?.getD 0 ≤ Y.1) (b2 : Y.2 ≤ ys[ys.length-1]?.getD 0) (b3 : Y.1 ≤ y) (b4 : y ≤ Y.2)
    (hall : ∀ u ∈ stopsL xs X.1 X.2, ∀ v ∈ stopsL ys Y.1 Y.2, L ≤ flo xs ys vs u v ∧ cei xs ys vs u v ≤ H) : L ≤ flo xs ys vs x y ∧ cei xs ys vs x y ≤ H := by
  obtain ⟨i, x1, x2, hi, hx1, hx2, c1, c2, c3, c4⟩ := stops_near hT.ax a1 a2 a3 a4
  obtain ⟨k, y1, y2, hk, hy1, hy2, d1, d2, d3, d4⟩ := stops_near hT.ay b1 b2 b3 b4
  have hD := dX_pos hT.ax hT.ay hi hk
  have val : ∀ u v, xs[i]?.getD 0 ≤ u → u ≤ xs[i+1]?.getD 0 → ys[k]?.getD 0 ≤ v → v ≤ ys[k+1]?.getD 0 → flo xs ys vs u v = nX xs ys vs i k u v / dX xs ys i k ∧ cei xs ys vs u v = -(-(nX xs ys vs i k u v) / dX xs ys i k) :=
    fun u v p1 p2 p3 p4 => fc_eq hT (onAx_in hT.ax hi p1 p2) (onAx_in hT.ay hk p3 p4) hi hk p1 p2 p3 p4
  have hx : ∀ v, (nX xs ys vs i k x1 v ≤ nX xs ys vs i k x v ∧ nX xs ys vs i k x v ≤ nX xs ys vs i k x2 v) ∨ (nX xs ys vs i k x2 v ≤ nX xs ys vs i k x v ∧ nX xs ys vs i k x v ≤ nX xs ys vs i k x1 v) := fun v => by
    have e : ∀ z, nX xs ys vs i k z v = (xs[i+1]?.getD 0 - z) * ((ys[k+1]?.getD 0 - v) * ((vs[i]?.getD [])[k]?.getD 0) + (v - ys[k]?.getD 0) * ((vs[i]?.getD [])[k+1]?.getD 0)) + (z - xs[i]?.getD 0) * ((ys[k+1]?.getD 0 - v) * ((vs[i+1]?.getD [])[k]?.getD 0) + (v - ys[k]?.getD 0) * ((vs[i+1]?.getD [])[k+1]?.getD 0)) := fun z => by
      unfold nX numF; grind
    rw [e, e, e]
    exact lin c2 c3
  have hy : ∀ u, (nX xs ys vs i k u y1 ≤ nX xs ys vs i k u y ∧ nX xs ys vs i k u y ≤ nX xs ys vs i k u y2) ∨ (nX xs ys vs i k u y2 ≤ nX xs ys vs i k u y ∧ nX xs ys vs i k u y ≤ nX xs ys vs i k u y1) := fun u => by
    have e : ∀ z, nX xs ys vs i k u z = (ys[k+1]?.getD 0 - z) * ((xs[i+1]?.getD 0 - u) * ((vs[i]?.getD [])[k]?.getD 0) + (u - xs[i]?.getD 0) * ((vs[i+1]?.getD [])[k]?.getD 0)) + (z - ys[k]?.getD 0) * ((xs[i+1]?.getD 0 - u) * ((vs[i]?.getD [])[k+1]?.getD 0) + (u - xs[i]?.getD 0) * ((vs[i+1]?.getD [])[k+1]?.getD 0)) := fun z => by
      unfold nX numF; grind
    rw [e, e, e]
    exact lin d2 d3
  have at4 : ∀ u v, u ∈ stopsL xs X.1 X.2 → v ∈ stopsL ys Y.1 Y.2 → xs[i]?.getD 0 ≤ u → u ≤ xs[i+1]?.getD 0 → ys[k]?.getD 0 ≤ v → v ≤ ys[k+1]?.getD 0 → L ≤ nX xs ys vs i k u v / dX xs ys i k ∧ -(-(nX xs ys vs i k u v) / dX xs ys i k) ≤ H := fun u v hu hv p1 p2 p3 p4 => by
    have := hall u hu v hv
    rwa [(val u v p1 p2 p3 p4).1, (val u v p1 p2 p3 p4).2] at this
  have row : ∀ u, u ∈ stopsL xs X.1 X.2 → xs[i]?.getD 0 ≤ u → u ≤ xs[i+1]?.getD 0 → L ≤ nX xs ys vs i k u y / dX xs ys i k ∧ -(-(nX xs ys vs i k u y) / dX xs ys i k) ≤ H := fun u hu p1 p2 => by
    have q1 := at4 u y1 hu hy1 p1 p2 d1 (by omega)
    have q2 := at4 u y2 hu hy2 p1 p2 (by omega) d4
    rcases hy u with ⟨r1, r2⟩ | ⟨r1, r2⟩
    · have s1 := fc_mono hD r1; have s2 := fc_mono hD r2; omega
    · have s1 := fc_mono hD r1; have s2 := fc_mono hD r2; omega
  rw [(val x y (by omega) (by omega) (by omega) (by omega)).1, (val x y (by omega) (by omega) (by omega) (by omega)).2]
  have q1 := row x1 hx1 c1 (by omega)
  have q2 := row x2 hx2 (by omega) c4
  rcases hx y with ⟨r1, r2⟩ | ⟨r1, r2⟩
  · have s1 := fc_mono hD r1; have s2 := fc_mono hD r2; omega
  · have s1 := fc_mono hD r1; have s2 := fc_mono hD r2; omega
end Go.Proofs.YtgibbaadjbohdaaDoor
/- The ends of a bound: no value at a point of the box is beyond them, and each is one. In numbers; no conditions. -/
namespace Go.Proofs.YtgibbaadjbohdaaDoor

theorem stepE_low (l p : Pt) : (if cmpV p.n p.d l.n l.d < 0 then p else l).n / (if cmpV p.n p.d l.n l.d < 0 then p else l).d ≤ l.n / l.d ∧ (if cmpV p.n p.d l.n l.d < 0 then p else l).n / (if cmpV p.n p.d l.n l.d < 0 then p else l).d ≤ p.n / p.d := by
  rw [← step_low l p, mn_eq]; omega
theorem stepE_top (m p : Pt) : -(-m.n / m.d) ≤ -(-(if 0 < cmpV p.n p.d m.n m.d then p else m).n / (if 0 < cmpV p.n p.d m.n m.d then p else m).d) ∧ -(-p.n / p.d) ≤ -(-(if 0 < cmpV p.n p.d m.n m.d then p else m).n / (if 0 < cmpV p.n p.d m.n m.d then p else m).d) := by
  rw [← step_top m p, mx_eq]; omega
theorem fold_ext : ∀ (ps : List Pt) (l0 m0 l m : Pt), ps.foldl stepE (some (l0, m0)) = some (l, m) →
    (l = l0 ∨ l ∈ ps) ∧ (m = m0 ∨ m ∈ ps) ∧ l.n / l.d ≤ l0.n / l0.d ∧ -(-m0.n / m0.d) ≤ -(-m.n / m.d) ∧ ∀ p ∈ ps, l.n / l.d ≤ p.n / p.d ∧ -(-p.n / p.d) ≤ -(-m.n / m.d)
  | [], l0, m0, l, m, h => by
    simp only [List.foldl_nil, Option.some.injEq, Prod.mk.injEq] at h
    obtain ⟨rfl, rfl⟩ := h
    exact ⟨.inl rfl, .inl rfl, by omega, by omega, by simp⟩
  | q :: ps, l0, m0, l, m, h => by
    rw [List.foldl_cons, stepE_some] at h
    obtain ⟨h1, h2, h3, h4, h5⟩ := fold_ext ps _ _ l m h
    have a := stepE_low l0 q
    have b := stepE_top m0 q
    refine ⟨?_, ?_, by omega, by omega, fun p hp => ?_⟩
    · rcases h1 with h1 | h1
      · by_cases c : cmpV q.n q.d l0.n l0.d < 0
        · rw [if_pos c] at h1; exact .inr (h1 ▸ List.mem_cons_self ..)
        · rw [if_neg c] at h1; exact .inl h1
      · exact .inr (List.mem_cons_of_mem _ h1)
    · rcases h2 with h2 | h2
      · by_cases c : 0 < cmpV q.n q.d m0.n m0.d
        · rw [if_pos c] at h2; exact .inr (h2 ▸ List.mem_cons_self ..)
        · rw [if_neg c] at h2; exact .inl h2
      · exact .inr (List.mem_cons_of_mem _ h2)
    · rcases List.mem_cons.1 hp with rfl | hp
      · exact ⟨by omega, by omega⟩
      · exact h5 p hp
theorem extr_is {ps : List Pt} {l m : Pt} (h : extrE ps = some (l, m)) : l ∈ ps ∧ m ∈ ps ∧ ∀ p ∈ ps, l.n / l.d ≤ p.n / p.d ∧ -(-p.n / p.d) ≤ -(-m.n / m.d) := by
  cases ps with
  | nil => simp [extrE] at h
  | cons q ps =>
    have h' : ps.foldl stepE (some (q, q)) = some (l, m) := h
    obtain ⟨h1, h2, h3, h4, h5⟩ := fold_ext ps q q l m h'
    refine ⟨?_, ?_, fun p hp => ?_⟩
    · rcases h1 with rfl | h1
      · exact List.mem_cons_self ..
      · exact List.mem_cons_of_mem _ h1
    · rcases h2 with rfl | h2
      · exact List.mem_cons_self ..
      · exact List.mem_cons_of_mem _ h2
    · rcases List.mem_cons.1 hp with rfl | hp
      · exact ⟨h3, h4⟩
      · exact h5 p hp
theorem pts_mem {xs ys : List Int} {vs : List (List Int)} {x y : Int × Int} {p : Pt} : p ∈ pts xs ys vs x y ↔ ∃ u ∈ stopsL xs x.1 x.2, ∃ v ∈ stopsL ys y.1 y.2, p = ptAt xs ys vs u v := by
  unfold pts allPts rowPts
  simp only [List.mem_flatMap, List.mem_map]
  constructor
  · rintro ⟨u, hu, v, hv, rfl⟩; exact ⟨u, hu, v, hv, rfl⟩
  · rintro ⟨u, hu, v, hv, rfl⟩; exact ⟨u, hu, v, hv, rfl⟩
theorem stops_in {l : List Int} {lo hi x : Int} (h : lo ≤ hi) (hx : x ∈ stopsL l lo hi) : lo ≤ x ∧ x ≤ hi := by
  unfold stopsL midL at hx
  simp only [List.cons_append, List.mem_cons, List.mem_append, List.mem_filter, Bool.and_eq_true, decide_eq_true_eq] at hx
  rcases hx with rfl | ⟨_, h3, h4⟩ | h5
  · exact ⟨by omega, h⟩
  · omega
  · split at h5
    · simp at h5; omega
    · simp at h5
structure BndIs (xs ys : List Int) (vs : List (List Int)) (x y b : Int × Int) : Prop where
  all : ∀ u v, x.1 ≤ u → u ≤ x.2 → y.1 ≤ v → v ≤ y.2 → b.1 ≤ flo xs ys vs u v ∧ cei xs ys vs u v ≤ b.2
  low : ∃ u v, x.1 ≤ u ∧ u ≤ x.2 ∧ y.1 ≤ v ∧ v ≤ y.2 ∧ flo xs ys vs u v = b.1
  top : cei xs ys vs (wst xs ys vs x y).1 (wst xs ys vs x y).2 = b.2 ∧ x.1 ≤ (wst xs ys vs x y).1 ∧ (wst xs ys vs x y).1 ≤ x.2 ∧ y.1 ≤ (wst xs ys vs x y).2 ∧ (wst xs ys vs x y).2 ≤ y.2
theorem bnd_is {xs ys : List Int} {vs : List (List Int)} {x y : Int × Int} (hO : OnT xs ys vs x y) : BndIs xs ys vs x y (bnd xs ys vs x y) := by
  obtain ⟨l, m, hlm⟩ := extrE_ne (pts xs ys vs x y) (allPts_ne xs ys vs x.1 x.2 y.1 y.2)
  obtain ⟨h1, h2, h3⟩ := extr_is hlm
  rw [bnd_eq hlm]
  have val : ∀ u v, u ∈ stopsL xs x.1 x.2 → v ∈ stopsL ys y.1 y.2 → flo xs ys vs u v = (ptAt xs ys vs u v).n / (ptAt xs ys vs u v).d ∧ cei xs ys vs u v = -(-(ptAt xs ys vs u v).n / (ptAt xs ys vs u v).d) ∧ (ptAt xs ys vs u v).x = u ∧ (ptAt xs ys vs u v).y = v := fun u v hu hv => by
    obtain ⟨e1, e2, e3, e4⟩ := ptAt_is (vs := vs) hO.t (OnAx_stops hO.x1 hO.x2 hO.x3 hu) (OnAx_stops hO.y1 hO.y2 hO.y3 hv)
    rw [e1, e2]
    exact ⟨rfl, rfl, e3, e4⟩
  refine ⟨fun u v u1 u2 v1 v2 => ?_, ?_, ?_⟩
  · refine inside hO.t hO.x1 hO.x2 u1 u2 hO.y1 hO.y2 v1 v2 fun a ha b hb => ?_
    obtain ⟨e1, e2, _, _⟩ := val a b ha hb
    rw [e1, e2]
    exact h3 _ (pts_mem.2 ⟨a, ha, b, hb, rfl⟩)
  · obtain ⟨a, ha, b, hb, rfl⟩ := pts_mem.1 h1
    obtain ⟨e1, e2, _, _⟩ := val a b ha hb
    exact ⟨a, b, (stops_in hO.x3 ha).1, (stops_in hO.x3 ha).2, (stops_in hO.y3 hb).1, (stops_in hO.y3 hb).2, e1⟩
  · rw [wst_eq hlm]
    obtain ⟨a, ha, b, hb, rfl⟩ := pts_mem.1 h2
    obtain ⟨e1, e2, e3, e4⟩ := val a b ha hb
    simp only [e3, e4]
    exact ⟨e2, (stops_in hO.x3 ha).1, (stops_in hO.x3 ha).2, (stops_in hO.y3 hb).1, (stops_in hO.y3 hb).2⟩
theorem bnd_part {xs ys : List Int} {vs : List (List Int)} {x y x' y' : Int × Int} (hO : OnT xs ys vs x y) (hx1 : x.1 ≤ x'.1) (hx2 : x'.2 ≤ x.2) (hx3 : x'.1 ≤ x'.2) (hy1 : y.1 ≤ y'.1) (hy2 : y'.2 ≤ y.2) (hy3 : y'.1 ≤ y'.2) :
    (bnd xs ys vs x y).1 ≤ (bnd xs ys vs x' y').1 ∧ (bnd xs ys vs x' y').2 ≤ (bnd xs ys vs x y).2 := by
  have hO' : OnT xs ys vs x' y' := ⟨hO.t, by have := hO.x1; omega, by have := hO.x2; omega, hx3, by have := hO.y1; omega, by have := hO.y2; omega, hy3⟩
  have b := bnd_is hO
  have b' := bnd_is hO'
  obtain ⟨u, v, u1, u2, v1, v2, e⟩ := b'.low
  obtain ⟨e2, w1, w2, w3, w4⟩ := b'.top
  have p := (b.all u v (by omega) (by omega) (by omega) (by omega)).1
  have q := (b.all _ _ (by omega : x.1 ≤ (wst xs ys vs x' y').1) (by omega) (by omega : y.1 ≤ (wst xs ys vs x' y').2) (by omega)).2
  rw [e] at p
  rw [e2] at q
  exact ⟨p, q⟩
end Go.Proofs.YtgibbaadjbohdaaDoor
/- The hoist: its checks, the winch, what it carries. No conditions. -/
namespace Go.Proofs.YtgibbaadjbohdaaDoor
open Go.RowKit Lift

structure Hst where
  cable : Int
  xs : List Int
  ys : List Int
  vs : List (List Int)
  charge : Int
def hoC (h : Hst) : List D := [dI h.cable, .list (ints h.xs), .list (ints h.ys), .list (rows h.vs), dI h.charge]
def hoD (h : Hst) : D := .agg (hoC h)
structure HSm (h : Hst) : Prop where
  m : TSm h.xs h.ys h.vs
  x : ∀ x ∈ h.xs, -9223372036854775808 ≤ x ∧ x ≤ 9223372036854775807
  y : ∀ x ∈ h.ys, -9223372036854775808 ≤ x ∧ x ≤ 9223372036854775807
theorem hoC_in (S : Nat → Prop) (h : Hst) : ∀ d ∈ hoC h, In S d := by
  intro d hd
  simp only [hoC, List.mem_cons, List.not_mem_nil, or_false] at hd
  rcases hd with rfl | rfl | rfl | rfl | rfl <;> first | exact .val _ | exact .list _
theorem hoD_in (S : Nat → Prop) (h : Hst) : In S (hoD h) := .agg _ (hoC_in S h)
def hoB (h : Hst) : Bool := wI h.cable 1 100 && tabB h.xs h.ys h.vs && decide (h.xs[0]?.getD 0 ≤ 0) && decide (h.cable ≤ h.xs[h.xs.length - 1]?.getD 0) && wI h.charge 0 100
def hoE (h : Hst) : Int := if hoB h = true then 0 else 71
theorem Tbl.lens {xs ys : List Int} {vs : List (List Int)} (h : Tbl xs ys vs) : (2 ≤ xs.length ∧ xs.length ≤ 12) ∧ 2 ≤ ys.length ∧ ys.length ≤ 12 := by
  have := h.ax.two; have := h.ax.twelve; have := h.ay.two; have := h.ay.twelve; omega
set_option maxRecDepth 100000 in
set_option maxHeartbeats 1000000 in
theorem checkHoist_ac (h : Hst) (hS : HSm h) : AC Tryd.prog 23 [hoD h] [] [] (dI (hoE h)) := by
  refine ksling_CheckHoist.ac (n0 := 0) (by simp) ⟨hoD_in _ _, trivial⟩ trivial rfl ?_
  unfold csling_CheckHoist hoD hoC
  have ct := checkTable_ac h.xs h.ys h.vs hS.x hS.y
  cases c1 : wI h.cable 1 100 with
  | false =>
    have e : hoE h = 71 := by unfold hoE hoB; rw [c1]; simp
    rw [e]
    (repeat' (first | apply aw_seq | ((first | apply aw_skip | apply aw_exit); try simp only [thenQ, blockQ, if_true, if_false, Nat.reduceEqDiff, reduceCtorEq]) | apply aw_ret | apply aw_block | apply aw_condT rfl | apply aw_condF rfl | ((first | refine aw_region ?_ | refine acall0 (slwithin_ac _ _ _) ?_ | refine ago_if (by omega) ?_ | skip); simp (disch := first | exact okY | omega) only [ZU, dI, Nat.reduceAdd, Nat.reduceMul, AOpRun, aexec, D.isBot, ↓eget_h, or_self, ↓reduceIte, D.cells, Nat.reduceBEq, run1, dB, c1, ARun_some, AG_tf])))
    all_goals (refine end_q [] [] ?_ ?_ <;> repeat' (first | exact trivial | exact vr_val _))
  | true =>
  cases c2 : tabB h.xs h.ys h.vs with
  | false =>
    have e : hoE h = 71 := by unfold hoE hoB; rw [c2]; simp
    have e2 : tabErr h.xs h.ys h.vs = 11 := by unfold tabErr; rw [c2]; rfl
    rw [e]
    (repeat' (first | apply aw_seq | ((first | apply aw_skip | apply aw_exit); try simp only [thenQ, blockQ, if_true, if_false, Nat.reduceEqDiff, reduceCtorEq]) | apply aw_ret | apply aw_block | apply aw_condT rfl | apply aw_condF rfl | ((first | refine aw_region ?_ | refine acall0 (slwithin_ac _ _ _) ?_ | refine acall0 (ct) ?_ | refine ago_if (by omega) ?_ | skip); simp (disch := first | exact okY | omega) only [ZU, dI, Nat.reduceAdd, Nat.reduceMul, AOpRun, aexec, D.isBot, ↓eget_h, or_self, ↓reduceIte, D.cells, Nat.reduceBEq, run1, dB, c1, ARun_some, AG_ff, Nat.reduceLeDiff, List.drop, List.take, e2, isSh, abin, Int.reduceBNe, AG_tf])))
    all_goals (refine end_q [] [] ?_ ?_ <;> repeat' (first | exact trivial | exact vr_val _))
  | true =>
  have e2 : tabErr h.xs h.ys h.vs = 0 := by unfold tabErr; rw [c2]; rfl
  have hl := (tbl_of c2).lens
  have g0 := ints_gd h.xs 0 (by omega)
  have gl := ints_gd h.xs (h.xs.length - 1) (by omega)
  have tn : ((h.xs.length : Int) - 1).toNat = h.xs.length - 1 := by omega
  have hlt : h.xs.length - 1 < h.xs.length := by omega
  cases c3 : decide (h.xs[0]?.getD 0 > 0) with
  | true =>
    have e : hoE h = 71 := by
      have := of_decide_eq_true c3
      unfold hoE hoB; rw [decide_eq_false (by omega : ¬ h.xs[0]?.getD 0 ≤ 0)]; simp
    rw [e]
    (repeat' (first | apply aw_seq | ((first | apply aw_skip | apply aw_exit); try simp only [thenQ, blockQ, if_true, if_false, Nat.reduceEqDiff, reduceCtorEq]) | apply aw_ret | apply aw_block | apply aw_condT rfl | apply aw_condF rfl | ((first | refine aw_region ?_ | refine acall0 (slwithin_ac _ _ _) ?_ | refine acall0 (ct) ?_ | refine ago_if (by omega) ?_ | skip); simp (disch := first | exact okY | omega) only [ZU, dI, Nat.reduceAdd, Nat.reduceMul, AOpRun, aexec, D.isBot, ↓eget_h, or_self, ↓reduceIte, D.cells, Nat.reduceBEq, run1, dB, c1, ARun_some, AG_ff, Nat.reduceLeDiff, List.drop, List.take, e2, isSh, abin, bne_self_eq_false, Int.le_refl, ints_all, opt1, Int.toNat_zero, g0, c3, AG_tf])))
    all_goals (refine end_q [] [] ?_ ?_ <;> repeat' (first | exact trivial | exact vr_val _))
  | false =>
  cases c4 : decide (h.xs[h.xs.length - 1]?.getD 0 < h.cable) with
  | true =>
    have e : hoE h = 71 := by
      have := of_decide_eq_true c4
      unfold hoE hoB; rw [decide_eq_false (by omega : ¬ h.cable ≤ h.xs[h.xs.length - 1]?.getD 0)]; simp
    rw [e]
    (repeat' (first | apply aw_seq | ((first | apply aw_skip | apply aw_exit); try simp only [thenQ, blockQ, if_true, if_false, Nat.reduceEqDiff, reduceCtorEq]) | apply aw_ret | apply aw_block | apply aw_condT rfl | apply aw_condF rfl | ((first | refine aw_region ?_ | refine acall0 (slwithin_ac _ _ _) ?_ | refine acall0 (ct) ?_ | refine ago_if (by omega) ?_ | skip); simp (disch := first | exact okY | omega) only [ZU, dI, Nat.reduceAdd, Nat.reduceMul, AOpRun, aexec, D.isBot, ↓eget_h, or_self, ↓reduceIte, D.cells, Nat.reduceBEq, run1, dB, c1, ARun_some, AG_ff, Nat.reduceLeDiff, List.drop, List.take, e2, isSh, abin, bne_self_eq_false, Int.le_refl, ints_all, opt1, Int.toNat_zero, g0, c3, ints_len, fits, and_true, tn, gl, c4, AG_tf])))
    all_goals (refine end_q [] [] ?_ ?_ <;> repeat' (first | exact trivial | exact vr_val _))
  | false =>
  have f3 := of_decide_eq_false c3
  have f4 := of_decide_eq_false c4
  cases c5 : wI h.charge 0 100 with
  | false =>
    have e : hoE h = 71 := by unfold hoE hoB; rw [c5]; simp
    rw [e]
    (repeat' (first | apply aw_seq | ((first | apply aw_skip | apply aw_exit); try simp only [thenQ, blockQ, if_true, if_false, Nat.reduceEqDiff, reduceCtorEq]) | apply aw_ret | apply aw_block | apply aw_condT rfl | apply aw_condF rfl | ((first | refine aw_region ?_ | refine acall0 (slwithin_ac _ _ _) ?_ | refine acall0 (ct) ?_ | refine ago_if (by omega) ?_ | skip); simp (disch := first | exact okY | omega) only [ZU, dI, Nat.reduceAdd, Nat.reduceMul, AOpRun, aexec, D.isBot, ↓eget_h, or_self, ↓reduceIte, D.cells, Nat.reduceBEq, run1, dB, c1, ARun_some, AG_ff, Nat.reduceLeDiff, List.drop, List.take, e2, isSh, abin, bne_self_eq_false, Int.le_refl, ints_all, opt1, Int.toNat_zero, g0, c3, ints_len, fits, and_true, tn, gl, c4, c5])))
    all_goals (refine end_q [] [] ?_ ?_ <;> repeat' (first | exact trivial | exact vr_val _))
  | true =>
    have e : hoE h = 0 := by unfold hoE hoB; rw [c1, c2, c5, decide_eq_true (by omega : h.xs[0]?.getD 0 ≤ 0), decide_eq_true (by omega : h.cable ≤ h.xs[h.xs.length - 1]?.getD 0)]; rfl
    rw [e]
    (repeat' (first | apply aw_seq | ((first | apply aw_skip | apply aw_exit); try simp only [thenQ, blockQ, if_true, if_false, Nat.reduceEqDiff, reduceCtorEq]) | apply aw_ret | apply aw_block | apply aw_condT rfl | apply aw_condF rfl | ((first | refine aw_region ?_ | refine acall0 (slwithin_ac _ _ _) ?_ | refine acall0 (ct) ?_ | refine ago_if (by omega) ?_ | skip); simp (disch := first | exact okY | omega) only [ZU, dI, Nat.reduceAdd, Nat.reduceMul, AOpRun, aexec, D.isBot, ↓eget_h, or_self, ↓reduceIte, D.cells, Nat.reduceBEq, run1, dB, c1, ARun_some, AG_ff, Nat.reduceLeDiff, List.drop, List.take, e2, isSh, abin, bne_self_eq_false, Int.le_refl, ints_all, opt1, Int.toNat_zero, g0, c3, ints_len, fits, and_true, tn, gl, c4, c5])))
    all_goals (refine end_q [] [] ?_ ?_ <;> repeat' (first | exact trivial | exact vr_val _))
structure HoOk (h : Hst) : Prop where
  c1 : 1 ≤ h.cable
  c2 : h.cable ≤ 100
  t : Tbl h.xs h.ys h.vs
  tb : tabB h.xs h.ys h.vs = true
  x1 : h.xs[0]?.getD 0 ≤ 0
  x2 : h.cable ≤ h.xs[h.xs.length - 1]?.getD 0
  g1 : 0 ≤ h.charge
  g2 : h.charge ≤ 100
theorem hoE_ok {h : Hst} (e : hoE h = 0) : HoOk h := by
  unfold hoE at e
  split at e
  · rename_i hb
    simp only [hoB, Bool.and_eq_true, decide_eq_true_eq] at hb
    obtain ⟨⟨⟨⟨a1, a2⟩, a3⟩, a4⟩, a5⟩ := hb
    have b1 := wI_t a1
    have b5 := wI_t a5
    exact ⟨b1.1, b1.2, tbl_of a2, a2, a3, a4, b5.1, b5.2⟩
  · omega
structure Hng where
  len : Int
  wt : Int
  since : Int
  cyc : Int
  cut : Bool
def hng0 : Hng := ⟨0, 0, 0, 0, false⟩
def hgC (k : Hng) : List D := [dI k.len, dI k.wt, dI k.since, dI k.cyc, dB k.cut]
def wiC (h : Hst) (wd : Int × Int) (k : Hng) (t : Bool) : List D := [dI h.cable, .list (ints h.xs), .list (ints h.ys), .list (rows h.vs), dI h.charge, dI wd.1, dI wd.2, dI k.len, dI k.wt, dI k.since, dI k.cyc, dB k.cut, dB t]
theorem wiC_in (S : Nat → Prop) (h : Hst) (wd : Int × Int) (k : Hng) (t : Bool) : ∀ d ∈ wiC h wd k t, In S d := by
  intro d hd
  simp only [wiC, List.mem_cons, List.not_mem_nil, or_false] at hd
  rcases hd with rfl | rfl | rfl | rfl | rfl | rfl | rfl | rfl | rfl | rfl | rfl | rfl | rfl <;> first | exact .val _ | exact .list _
def wiE (h : Hst) (wd : Int × Int) : Int := if hoE h = 0 then (if okS wd = true then 0 else 10) else hoE h
set_option maxRecDepth 100000 in
set_option maxHeartbeats 1000000 in
theorem newWinchE_ac (h : Hst) (wd : Int × Int) (hS : HSm h) (he : wiE h wd ≠ 0) : AC Tryd.prog 11 [hoD h, spD wd] [] [] (.tup [.val (.pointer none), dB false, dI (wiE h wd)]) := by
  refine ksling_newWinch.ac (n0 := 0) (by simp) ⟨hoD_in _ _, in_agg2 _ _ _, trivial⟩ trivial rfl ?_
  unfold csling_newWinch hoD hoC spD
  have hcb : AC Tryd.prog 24 [.list (sps [wd])] [] [] (dI (boxE [wd])) := check_ac [wd]
  rw [box1] at hcb
  have ch := checkHoist_ac h hS
  unfold hoD hoC at ch
  by_cases h1 : hoE h = 0
  case neg =>
    have e1 : wiE h wd = hoE h := if_neg h1
    rw [e1]
    (have hg : (987654321 : Nat) - 987654321 = 0 := rfl; have hr := hg; repeat' (first | apply aw_seq | ((first | apply aw_skip | apply aw_exit); try simp only [thenQ, blockQ, if_true, if_false, Nat.reduceEqDiff, reduceCtorEq]) | apply aw_ret | apply aw_block | apply aw_condT rfl | apply aw_condF rfl | (refine aw_cond rfl (fun hg => ?_) (fun hg => ?_) <;> (try (have hq := hg; simp only [Bool.not_eq_true', Bool.not_eq_false', Bool.and_eq_true, Bool.and_eq_false_iff, Bool.or_eq_true, Bool.or_eq_false_iff, decide_eq_true_eq, decide_eq_false_iff_not, bne_iff_ne, beq_iff_eq, beq_eq_false_iff_ne, bne_eq_false_iff_eq, ne_eq, Int.not_lt, Int.not_le, Decidable.not_not] at hq)) <;> (try (have hr := hg; simp only [decide_eq_true_eq, decide_eq_false_iff_not] at hr)) <;> (try (exfalso; omega))) | ((first | refine aw_region ?_ | refine acall0 (ch) ?_ | refine ago_if (by omega) ?_ | skip); simp (disch := first | exact okY | omega) only [ZU, dB, dI, Nat.reduceAdd, Nat.reduceMul, AOpRun, aexec, D.isBot, ↓eget_h, or_self, ↓reduceIte, D.cells, Nat.reduceBEq, Nat.reduceLeDiff, List.drop, List.take, isSh, abin, hg])))
    all_goals (refine end_q [] [] ?_ ?_ <;> repeat' (first | exact trivial | exact vr_val _ | apply vr_tup | apply And.intro))
  have e1 : wiE h wd = if okS wd = true then 0 else 10 := if_pos h1
  cases h2 : okS wd with
  | true => rw [e1, h2] at he; exact absurd rfl he
  | false =>
    rw [e1]
    (iterate 30 (try (first | apply aw_seq | ((first | apply aw_skip | apply aw_exit); try simp only [thenQ, blockQ, if_true, if_false, Nat.reduceEqDiff, reduceCtorEq]) | apply aw_ret | apply aw_block | apply aw_condT rfl | apply aw_condF rfl | ((first | refine aw_region ?_ | refine acall0 (ch) ?_ | refine ago_if (by omega) ?_ | skip); simp (disch := first | exact okY | omega) only [ZU, dB, dI, Nat.reduceAdd, Nat.reduceMul, AOpRun, aexec, D.isBot, ↓eget_h, or_self, ↓reduceIte, D.cells, Nat.reduceBEq, Nat.reduceLeDiff, List.drop, List.take, h1, isSh, abin, bne_self_eq_false, ↓hget_h, fillD, ne_eq, not_true_eq_false, Nat.reduceGT, splice]))))
    refine acallV1 hcb (.val _) rfl (sps_two _) rfl rfl (by intro d hd; simp at hd; rcases hd with rfl | rfl <;> exact .val _) (by kernel_rfl) ?_
    (repeat' (first | apply aw_seq | ((first | apply aw_skip | apply aw_exit); try simp only [thenQ, blockQ, if_true, if_false, Nat.reduceEqDiff, reduceCtorEq]) | apply aw_ret | apply aw_block | apply aw_condT rfl | apply aw_condF rfl | ((first | refine aw_region ?_ | refine ago_if (by omega) ?_ | skip); simp (disch := first | exact okY | omega) only [ZU, h2, ↓reduceIte, Nat.reduceAdd, dI, Nat.reduceBEq, AOpRun, aexec, ↓eget_h, Nat.reduceMul, isSh, abin, Int.reduceBNe])))
    all_goals (refine end_q [] [] ?_ ?_ <;> repeat' (first | exact trivial | exact vr_val _ | apply vr_tup | apply And.intro))
set_option maxRecDepth 100000 in
set_option maxHeartbeats 1000000 in
theorem newWinchO_ac (h : Hst) (wd : Int × Int) (hS : HSm h) (he : wiE h wd = 0) : AC Tryd.prog 11 [hoD h, spD wd] [] [(48, some (wiC h wd hng0 false))] (.tup [.ptr 48 0, dB (liesB h.ys wd), dI 0]) := by
  refine ksling_newWinch.ac (n0 := 0) (by simp) ⟨hoD_in _ _, in_agg2 _ _ _, trivial⟩ trivial rfl ?_
  unfold csling_newWinch hoD hoC spD
  have hcb : AC Tryd.prog 24 [.list (sps [wd])] [] [] (dI (boxE [wd])) := check_ac [wd]
  rw [box1] at hcb
  have ch := checkHoist_ac h hS
  unfold hoD hoC at ch
  have h1 : hoE h = 0 := by
    by_cases h1 : hoE h = 0
    · exact h1
    · exact absurd ((if_neg h1).symm.trans he) h1
  have h2 : okS wd = true := by
    have e1 : wiE h wd = if okS wd = true then 0 else 10 := if_pos h1
    cases h2 : okS wd with
    | true => rfl
    | false => rw [e1, h2] at he; simp at he
  have hO := hoE_ok h1
  have hl := hO.t.lens
  have g0 := ints_gd h.ys 0 (by omega)
  have gl := ints_gd h.ys (h.ys.length - 1) (by omega)
  have tn : ((h.ys.length : Int) - 1).toNat = h.ys.length - 1 := by omega
  have hlt : h.ys.length - 1 < h.ys.length := by omega
  unfold liesB
  (iterate 30 (try (first | apply aw_seq | ((first | apply aw_skip | apply aw_exit); try simp only [thenQ, blockQ, if_true, if_false, Nat.reduceEqDiff, reduceCtorEq]) | apply aw_ret | apply aw_block | apply aw_condT rfl | apply aw_condF rfl | ((first | refine aw_region ?_ | refine acall0 (ch) ?_ | refine ago_if (by omega) ?_ | skip); simp (disch := first | exact okY | omega) only [ZU, dB, dI, Nat.reduceAdd, Nat.reduceMul, AOpRun, aexec, D.isBot, ↓eget_h, or_self, ↓reduceIte, D.cells, Nat.reduceBEq, Nat.reduceLeDiff, List.drop, List.take, h1, isSh, abin, bne_self_eq_false, ↓hget_h, fillD, ne_eq, not_true_eq_false, Nat.reduceGT, splice]))))
  refine acallV1 hcb (.val _) rfl (sps_two _) rfl rfl (by intro d hd; simp at hd; rcases hd with rfl | rfl <;> exact .val _) (by kernel_rfl) ?_
  cases c1 : decide (h.ys[0]?.getD 0 ≤ wd.1) with
  | false =>
    (repeat' (first | apply aw_seq | ((first | apply aw_skip | apply aw_exit); try simp only [thenQ, blockQ, if_true, if_false, Nat.reduceEqDiff, reduceCtorEq]) | apply aw_ret | apply aw_block | apply aw_condT rfl | apply aw_condF rfl | ((first | refine aw_region ?_ | refine ago_if (by omega) ?_ | skip); simp (disch := first | exact okY | omega) only [ZU, Bool.false_and, Nat.reduceAdd, dI, h2, ↓reduceIte, Nat.reduceBEq, AOpRun, aexec, ↓eget_h, Nat.reduceMul, isSh, abin, bne_self_eq_false, run1, Nat.reduceLeDiff, List.drop, List.take, ↓hget_h, fillD, D.isBot, D.cells, ne_eq, not_true_eq_false, Nat.reduceGT, or_self, splice, Int.le_refl, ints_all, opt1, Int.toNat_zero, g0, ge_iff_le, c1, ARun_some, AG_ft])))
    refine end_q [] [(48, 184)] ?_ ?_ <;> repeat' (first | exact trivial | exact vr_val _ | exact vr_list _ | exact vr_ptr _ _ _ rfl | apply vr_tup | refine And.intro ⟨_, rfl, _, rfl, by decide, ?_⟩ ?_ | apply And.intro)
  | true =>
    (repeat' (first | apply aw_seq | ((first | apply aw_skip | apply aw_exit); try simp only [thenQ, blockQ, if_true, if_false, Nat.reduceEqDiff, reduceCtorEq]) | apply aw_ret | apply aw_block | apply aw_condT rfl | apply aw_condF rfl | ((first | refine aw_region ?_ | refine ago_if (by omega) ?_ | skip); simp (disch := first | exact okY | omega) only [ZU, Bool.true_and, Nat.reduceAdd, dI, h2, ↓reduceIte, Nat.reduceBEq, AOpRun, aexec, ↓eget_h, Nat.reduceMul, isSh, abin, bne_self_eq_false, run1, Nat.reduceLeDiff, List.drop, List.take, ↓hget_h, fillD, D.isBot, D.cells, ne_eq, not_true_eq_false, Nat.reduceGT, or_self, splice, Int.le_refl, ints_all, opt1, Int.toNat_zero, g0, ge_iff_le, c1, ARun_some, AG_tt, ints_len, fits, and_true, tn, gl])))
    refine end_q [] [(48, 184)] ?_ ?_ <;> repeat' (first | exact trivial | exact vr_val _ | exact vr_list _ | exact vr_ptr _ _ _ rfl | apply vr_tup | refine And.intro ⟨_, rfl, _, rfl, by decide, ?_⟩ ?_ | apply And.intro)
set_option maxRecDepth 100000 in
set_option maxHeartbeats 1000000 in
theorem at_ac (n : Int) : AC Tryd.prog 28 [dI n] [] [] (spD (n, n)) := by
  refine ksling_at.ac (n0 := 0) (by simp) ⟨.val _, trivial⟩ trivial rfl ?_
  unfold csling_at
  (repeat' (first | apply aw_seq | ((first | apply aw_skip | apply aw_exit); try simp only [thenQ, blockQ, if_true, if_false, Nat.reduceEqDiff, reduceCtorEq]) | apply aw_ret | apply aw_block | apply aw_condT rfl | apply aw_condF rfl | ((first | refine aw_region ?_ | refine ago_if (by omega) ?_ | skip); simp (disch := first | exact okY | omega) only [ZU, Nat.reduceMul, dI, AOpRun, aexec, ↓reduceIte, Nat.reduceBEq, Nat.reduceAdd, ↓eget_h, fillD, D.isBot, D.cells, ne_eq, not_true_eq_false, Nat.reduceGT, or_self, splice, List.take, List.drop, Nat.reduceLeDiff, List.all, D.leaf])))
  all_goals (refine end_q [] [] ?_ ?_ <;> repeat' (first | exact trivial | exact vr_val _ | apply vr_agg | apply And.intro))
def caB (h : Hst) (wd x : Int × Int) (w : Int) : Bool := decide (w = 0) || (decide ((boundR h.xs h.ys h.vs x wd).2 = 0) && decide (w ≤ (boundR h.xs h.ys h.vs x wd).1.1))
set_option maxRecDepth 100000 in
set_option maxHeartbeats 1000000 in
theorem carries_ac (h : Hst) (wd x : Int × Int) (w : Int) (k : Hng) (t : Bool) (hO : HoOk h) : AC Tryd.prog 27 [.ptr 48 0, spD x, dI w] [(48, wiC h wd k t)] [(48, some (wiC h wd k t))] (dB (caB h wd x w)) := by
  refine kpsling_winch_carries.ac (n0 := 56) (by simp) ⟨.ptr _ _ (by omega), in_agg2 _ _ _, .val _, trivial⟩ ⟨⟨by omega, wiC_in _ _ _ _ _⟩, trivial⟩ rfl ?_
  unfold cpsling_winch_carries wiC spD
  have hb := bound_ac x wd hO.t.sz
  by_cases h1 : w = 0
  · subst h1
    have e : caB h wd x 0 = true := by simp [caB]
    rw [e]
    (repeat' (first | apply aw_seq | ((first | apply aw_skip | apply aw_exit); try simp only [thenQ, blockQ, if_true, if_false, Nat.reduceEqDiff, reduceCtorEq]) | apply aw_ret | apply aw_block | apply aw_condT rfl | apply aw_condF rfl | ((first | refine aw_region ?_ | refine ago_if (by omega) ?_ | skip); simp (disch := first | exact okY | omega) only [ZU, dI, dB, Nat.reduceAdd, Nat.reduceMul, AOpRun, aexec, D.isBot, Nat.reduceBEq, ↓eget_h, or_self, ↓reduceIte, D.cells, isSh, abin])))
    all_goals (refine end_q [] [(48, 48)] ?_ ?_ <;> repeat' (first | exact trivial | exact vr_val _ | exact vr_list _ | refine And.intro ⟨_, rfl, _, rfl, by decide, ?_⟩ ?_ | apply And.intro))
  have e0 : ((w == 0) : Bool) = false := by simpa using h1
  have e1 : decide (w = 0) = false := decide_eq_false h1
  cases c1 : decide ((boundR h.xs h.ys h.vs x wd).2 = 0) with
  | true =>
    have e : caB h wd x w = decide (w ≤ (boundR h.xs h.ys h.vs x wd).1.1) := by unfold caB; rw [e1, c1]; rfl
    have c2 := of_decide_eq_true c1
    rw [e]
    (repeat' (first | apply aw_seq | ((first | apply aw_skip | apply aw_exit); try simp only [thenQ, blockQ, if_true, if_false, Nat.reduceEqDiff, reduceCtorEq]) | apply aw_ret | apply aw_block | apply aw_condT rfl | apply aw_condF rfl | ((first | refine aw_region ?_ | refine acall0 (hb) ?_ | refine ago_if (by omega) ?_ | skip); simp (disch := first | exact okY | omega) only [ZU, dI, dB, Nat.reduceAdd, Nat.reduceMul, AOpRun, aexec, D.isBot, Nat.reduceBEq, ↓eget_h, or_self, ↓reduceIte, D.cells, isSh, abin, e0, Nat.reduceLeDiff, List.drop, List.take, ↓hget_h, spD, c2, opt1, List.all, D.leaf, splice, ARun_some, AG_tt, run1, ge_iff_le])))
    all_goals (refine end_q [] [(48, 48)] ?_ ?_ <;> repeat' (first | exact trivial | exact vr_val _ | exact vr_list _ | refine And.intro ⟨_, rfl, _, rfl, by decide, ?_⟩ ?_ | apply And.intro))
  | false =>
    have e : caB h wd x w = false := by unfold caB; rw [e1, c1]; rfl
    have c2 := of_decide_eq_false c1
    have c3 : ((boundR h.xs h.ys h.vs x wd).2 == 0) = false := by simpa using c2
    rw [e]
    (repeat' (first | apply aw_seq | ((first | apply aw_skip | apply aw_exit); try simp only [thenQ, blockQ, if_true, if_false, Nat.reduceEqDiff, reduceCtorEq]) | apply aw_ret | apply aw_block | apply aw_condT rfl | apply aw_condF rfl | ((first | refine aw_region ?_ | refine acall0 (hb) ?_ | refine ago_if (by omega) ?_ | skip); simp (disch := first | exact okY | omega) only [ZU, dI, dB, Nat.reduceAdd, Nat.reduceMul, AOpRun, aexec, D.isBot, Nat.reduceBEq, ↓eget_h, or_self, ↓reduceIte, D.cells, isSh, abin, e0, Nat.reduceLeDiff, List.drop, List.take, ↓hget_h, spD, opt1, List.all, D.leaf, splice, c3, ARun_some, AG_ft])))
    all_goals (refine end_q [] [(48, 48)] ?_ ?_ <;> repeat' (first | exact trivial | exact vr_val _ | exact vr_list _ | refine And.intro ⟨_, rfl, _, rfl, by decide, ?_⟩ ?_ | apply And.intro))
end Go.Proofs.YtgibbaadjbohdaaDoor
/- The hoist: Carries and Deepest, both sides. No conditions. -/
namespace Go.Proofs.YtgibbaadjbohdaaDoor
open Go.RowKit Lift

def wndE (h : Hst) (wd : Int × Int) : Int := if hoE h = 0 then (if okS wd = true then (if liesB h.ys wd = true then 0 else 1) else 10) else hoE h
def beB (h : Hst) (wd : Int × Int) (L w : Int) : Bool := decide (w ≤ (boundR h.xs h.ys h.vs (L, L) wd).1.1)
theorem okS_vB (x : Int × Int) : okS x = vB x := rfl
structure WdOk (h : Hst) (wd : Int × Int) : Prop where
  o : HoOk h
  s : okS wd = true
  l : liesB h.ys wd = true
theorem wndE_ok {h : Hst} {wd : Int × Int} (e : wndE h wd = 0) : WdOk h wd := by
  by_cases h1 : hoE h = 0
  · have e1 : wndE h wd = if okS wd = true then (if liesB h.ys wd = true then 0 else 1) else 10 := if_pos h1
    rw [e1] at e
    by_cases h2 : okS wd = true
    · rw [if_pos h2] at e
      by_cases h3 : liesB h.ys wd = true
      · exact ⟨hoE_ok h1, h2, h3⟩
      · rw [if_neg h3] at e; omega
    · rw [if_neg h2] at e; omega
  · exact absurd ((if_neg h1).symm.trans e) h1
theorem WdOk.on {h : Hst} {wd : Int × Int} (W : WdOk h wd) {a b : Int} (h1 : 0 ≤ a) (h2 : a ≤ b) (h3 : b ≤ h.cable) : OnT h.xs h.ys h.vs (a, b) wd ∧ boundR h.xs h.ys h.vs (a, b) wd = (bnd h.xs h.ys h.vs (a, b) wd, 0) := by
  have x1 := W.o.x1
  have x2 := W.o.x2
  have hw := okS_t W.s
  have hl := liesB_iff.1 W.l
  refine ⟨⟨W.o.t, by simp only; omega, by simp only; omega, h2, hl.1, hl.2, hw.2.1⟩, ?_⟩
  have hc : h.cable ≤ 100 := W.o.c2
  have e : cpErr h.xs h.ys h.vs (a, b) wd = 0 := by
    unfold cpErr
    have v1 : vB (a, b) = true := by rw [← okS_vB]; simp only [okS, Bool.and_eq_true, decide_eq_true_eq]; omega
    have v2 : vB wd = true := by rw [← okS_vB]; exact W.s
    have s2 : spErr [(a, b), wd] = 0 := by unfold spErr; simp [v1, v2]
    have l1 : liesB h.xs (a, b) = true := liesB_iff.2 ⟨by simp only; omega, by simp only; omega⟩
    rw [if_pos W.o.tb, s2, l1, W.l]
    rfl
  unfold boundR
  rw [e]
  rfl
theorem WdOk.ca {h : Hst} {wd : Int × Int} (W : WdOk h wd) {a b w : Int} (h1 : 0 ≤ a) (h2 : a ≤ b) (h3 : b ≤ h.cable) (hw : 1 ≤ w) : caB h wd (a, b) w = decide (w ≤ (bnd h.xs h.ys h.vs (a, b) wd).1) := by
  unfold caB
  rw [(W.on h1 h2 h3).2, decide_eq_false (by omega : ¬ w = 0)]
  rfl
theorem WdOk.be {h : Hst} {wd : Int × Int} (W : WdOk h wd) {L w : Int} (h1 : 0 ≤ L) (h3 : L ≤ h.cable) : beB h wd L w = decide (w ≤ (bnd h.xs h.ys h.vs (L, L) wd).1) := by
  unfold beB
  rw [(W.on h1 (Int.le_refl _) h3).2]
theorem WdOk.all {h : Hst} {wd : Int × Int} (W : WdOk h wd) {a b w : Int} (h1 : 0 ≤ a) (h2 : a ≤ b) (h3 : b ≤ h.cable) (hw : 1 ≤ w) : caB h wd (a, b) w = true ↔ ∀ l : Int, a ≤ l → l ≤ b → beB h wd l w = true := by
  rw [W.ca h1 h2 h3 hw, decide_eq_true_eq]
  have hO := (W.on h1 h2 h3).1
  constructor
  · intro hb l l1 l2
    rw [W.be (by omega) (by omega), decide_eq_true_eq]
    have := (bnd_part (x' := (l, l)) (y' := wd) hO l1 l2 (Int.le_refl _) (Int.le_refl _) (Int.le_refl _) hO.y3).1
    omega
  · intro hall
    obtain ⟨u, v, u1, u2, v1, v2, e⟩ := (bnd_is hO).low
    have u1' : a ≤ u := u1
    have u2' : u ≤ b := u2
    have hb := hall u u1' u2'
    rw [W.be (by omega) (by omega), decide_eq_true_eq] at hb
    have hO' := (W.on (a := u) (b := u) (by omega) (Int.le_refl _) (by omega)).1
    have := ((bnd_is hO').all u v (Int.le_refl _) (Int.le_refl _) v1 v2).1
    omega
theorem wi_wnd {h : Hst} {wd : Int × Int} (e : wiE h wd = 0) : wndE h wd = if liesB h.ys wd = true then 0 else 1 := by
  by_cases h1 : hoE h = 0
  · have e1 : wiE h wd = if okS wd = true then 0 else 10 := if_pos h1
    by_cases h2 : okS wd = true
    · unfold wndE; rw [if_pos h1, if_pos h2]
    · rw [e1, if_neg h2] at e; omega
  · exact absurd ((if_neg h1).symm.trans e) h1
end Go.Proofs.YtgibbaadjbohdaaDoor
/- A step of a hoist: what it does, in numbers; the program's step. No conditions. -/
namespace Go.Proofs.YtgibbaadjbohdaaDoor
open Go.RowKit Lift

def outS (h : Hst) (wd : Int × Int) (k : Hng) (t : Bool) (n : Int) : Option (Hng × Bool) :=
  if wI (k.len + n) 0 h.cable = true ∧ caB h wd (k.len + n, k.len + n) k.wt = true then some (⟨k.len + n, k.wt, k.since + 1, k.cyc, k.cut⟩, t) else none
def stepS (h : Hst) (wd : Int × Int) (k : Hng) (t : Bool) (x : Int × Int) : Option (Hng × Bool) :=
  if k.cut = true then none
  else if x.1 = 1 then (if wI x.2 1 h.cable = true then outS h wd k t x.2 else none)
  else if x.1 = 2 then (if wI x.2 1 h.cable = true then outS h wd k t (-x.2) else none)
  else if x.1 = 4 then (if k.wt ≤ 0 ∧ k.len ≠ 0 ∧ t = true ∧ k.since + 1 ≤ h.charge ∧ wI x.2 1 100000 = true ∧ caB h wd (k.len, k.len) x.2 = true then some (⟨k.len, x.2, k.since + 1, k.cyc, k.cut⟩, t) else none)
  else if x.2 ≠ 0 then none
  else if x.1 = 3 ∧ 0 < k.len then some (⟨k.len, k.wt, 0, k.cyc, k.cut⟩, true)
  else if x.1 = 5 ∧ 0 < k.wt then some (⟨k.len, 0, k.since + 1, k.cyc + 1, k.cut⟩, t)
  else if x.1 = 6 then some (⟨0, 0, k.since + 1, k.cyc, true⟩, t)
  else none
structure HgOk (h : Hst) (k : Hng) (i : Int) : Prop where
  l1 : 0 ≤ k.len
  l2 : k.len ≤ h.cable
  w1 : 0 ≤ k.wt
  w2 : k.wt ≤ 100000
  s1 : 0 ≤ k.since
  s2 : k.since ≤ i
  c1 : 0 ≤ k.cyc
  c2 : k.cyc ≤ i
theorem hng0_ok {h : Hst} (hc : 1 ≤ h.cable) : HgOk h hng0 0 := ⟨by simp [hng0], by simp [hng0]; omega, by simp [hng0], by simp [hng0], by simp [hng0], by simp [hng0], by simp [hng0], by simp [hng0]⟩
theorem outS_ok {h : Hst} {wd : Int × Int} {k k' : Hng} {t t' : Bool} {n i : Int} (ho : HgOk h k i) (e : outS h wd k t n = some (k', t')) : HgOk h k' (i + 1) := by
  unfold outS at e
  split at e
  · rename_i hc
    have := wI_t hc.1
    simp only [Option.some.injEq, Prod.mk.injEq] at e
    obtain ⟨rfl, _⟩ := e
    have := ho.w1; have := ho.w2; have := ho.s1; have := ho.s2; have := ho.c1; have := ho.c2
    constructor <;> simp only <;> omega
  · cases e
theorem stepS_ok {h : Hst} {wd : Int × Int} {k k' : Hng} {t t' : Bool} {x : Int × Int} {i : Int} (hc : 1 ≤ h.cable) (ho : HgOk h k i) (e : stepS h wd k t x = some (k', t')) : HgOk h k' (i + 1) := by
  have := ho.l1; have := ho.l2; have := ho.w1; have := ho.w2; have := ho.s1; have := ho.s2; have := ho.c1; have := ho.c2
  unfold stepS at e
  split at e
  · cases e
  split at e
  · split at e
    · exact outS_ok ho e
    · cases e
  split at e
  · split at e
    · exact outS_ok ho e
    · cases e
  split at e
  · split at e
    · rename_i hq
      have := wI_t hq.2.2.2.2.1
      simp only [Option.some.injEq, Prod.mk.injEq] at e
      obtain ⟨rfl, _⟩ := e
      constructor <;> simp only <;> omega
    · cases e
  split at e
  · cases e
  split at e
  · simp only [Option.some.injEq, Prod.mk.injEq] at e
    obtain ⟨rfl, _⟩ := e
    constructor <;> simp only <;> omega
  split at e
  · simp only [Option.some.injEq, Prod.mk.injEq] at e
    obtain ⟨rfl, _⟩ := e
    constructor <;> simp only <;> omega
  split at e
  · simp only [Option.some.injEq, Prod.mk.injEq] at e
    obtain ⟨rfl, _⟩ := e
    constructor <;> simp only <;> omega
  · cases e
def doK (h : Hst) (wd : Int × Int) (k : Hng) (t : Bool) (x : Int × Int) : Hng := match stepS h wd k t x with | some y => y.1 | none => ⟨k.len, k.wt, k.since + 1, k.cyc, k.cut⟩
def doT (h : Hst) (wd : Int × Int) (k : Hng) (t : Bool) (x : Int × Int) : Bool := match stepS h wd k t x with | some y => y.2 | none => t
def doB (h : Hst) (wd : Int × Int) (k : Hng) (t : Bool) (x : Int × Int) : Bool := (stepS h wd k t x).isSome
set_option maxRecDepth 100000 in
set_option maxHeartbeats 1000000 in
theorem outO_ac (h : Hst) (wd : Int × Int) (k : Hng) (t : Bool) (n : Int) (hO : HoOk h) (hl : 0 ≤ k.len ∧ k.len ≤ 100) (hn : -100 ≤ n ∧ n ≤ 100) (ho : wI (k.len + n) 0 h.cable = true ∧ caB h wd (k.len + n, k.len + n) k.wt = true) :
    AC Tryd.prog 26 [.ptr 48 0, dI n] [(48, wiC h wd k t)] [(48, some (wiC h wd ⟨k.len + n, k.wt, k.since, k.cyc, k.cut⟩ t))] (dB true) := by
  refine kpsling_winch_out.ac (n0 := 56) (by simp) ⟨.ptr _ _ (by omega), .val _, trivial⟩ ⟨⟨by omega, wiC_in _ _ _ _ _⟩, trivial⟩ rfl ?_
  unfold cpsling_winch_out wiC
  obtain ⟨h1, h2⟩ := ho
  have ca := carries_ac h wd (k.len + n, k.len + n) k.wt k t hO
  unfold wiC at ca
  (repeat' (first | apply aw_seq | ((first | apply aw_skip | apply aw_exit); try simp only [thenQ, blockQ, if_true, if_false, Nat.reduceEqDiff, reduceCtorEq]) | apply aw_ret | apply aw_block | apply aw_condT rfl | apply aw_condF rfl | ((first | refine aw_region ?_ | refine acall0 (slwithin_ac _ _ _) ?_ | refine acall0 (at_ac _) ?_ | refine acallB (ca) (by repeat' (first | exact trivial | exact rfl | refine And.intro ?_ ?_)) (by kernel_rfl) (by kernel_rfl) (by kernel_rfl) ?_ | refine ago_if (by omega) ?_ | skip); simp (disch := first | exact okY | omega) only [ZU, dI, dB, Nat.reduceMul, Nat.reduceAdd, AOpRun, aexec, Nat.reduceBEq, ↓eget_h, run1, isSh, ↓reduceIte, abin, fits, h1, ARun_some, AG_ff, h2, D.isBot, D.cells, Nat.reduceLeDiff, List.all, D.leaf, splice, List.take, List.drop])))
  refine end_q [] [(48, 48)] ?_ ?_ <;> repeat' (first | exact trivial | exact vr_val _ | exact vr_list _ | refine And.intro ⟨_, rfl, _, rfl, by decide, ?_⟩ ?_ | apply And.intro)
set_option maxRecDepth 100000 in
set_option maxHeartbeats 1000000 in
theorem outE_ac (h : Hst) (wd : Int × Int) (k : Hng) (t : Bool) (n : Int) (hO : HoOk h) (hl : 0 ≤ k.len ∧ k.len ≤ 100) (hn : -100 ≤ n ∧ n ≤ 100) (ho : ¬ (wI (k.len + n) 0 h.cable = true ∧ caB h wd (k.len + n, k.len + n) k.wt = true)) :
    AC Tryd.prog 26 [.ptr 48 0, dI n] [(48, wiC h wd k t)] [(48, some (wiC h wd k t))] (dB false) := by
  refine kpsling_winch_out.ac (n0 := 56) (by simp) ⟨.ptr _ _ (by omega), .val _, trivial⟩ ⟨⟨by omega, wiC_in _ _ _ _ _⟩, trivial⟩ rfl ?_
  unfold cpsling_winch_out wiC
  have ca := carries_ac h wd (k.len + n, k.len + n) k.wt k t hO
  unfold wiC at ca
  cases h1 : wI (k.len + n) 0 h.cable with
  | false =>
    (repeat' (first | apply aw_seq | ((first | apply aw_skip | apply aw_exit); try simp only [thenQ, blockQ, if_true, if_false, Nat.reduceEqDiff, reduceCtorEq]) | apply aw_ret | apply aw_block | apply aw_condT rfl | apply aw_condF rfl | ((first | refine aw_region ?_ | refine acall0 (slwithin_ac _ _ _) ?_ | refine acall0 (at_ac _) ?_ | refine acallB (ca) (by repeat' (first | exact trivial | exact rfl | refine And.intro ?_ ?_)) (by kernel_rfl) (by kernel_rfl) (by kernel_rfl) ?_ | refine ago_if (by omega) ?_ | skip); simp (disch := first | exact okY | omega) only [ZU, dI, dB, Nat.reduceMul, Nat.reduceAdd, AOpRun, aexec, Nat.reduceBEq, ↓eget_h, run1, isSh, ↓reduceIte, abin, fits, h1, ARun_some, AG_tf])))
    all_goals (refine end_q [] [(48, 48)] ?_ ?_ <;> repeat' (first | exact trivial | exact vr_val _ | exact vr_list _ | refine And.intro ⟨_, rfl, _, rfl, by decide, ?_⟩ ?_ | apply And.intro))
  | true =>
    have h2 : caB h wd (k.len + n, k.len + n) k.wt = false := by
      cases h2 : caB h wd (k.len + n, k.len + n) k.wt with
      | false => rfl
      | true => exact absurd ⟨h1, h2⟩ ho
    (repeat' (first | apply aw_seq | ((first | apply aw_skip | apply aw_exit); try simp only [thenQ, blockQ, if_true, if_false, Nat.reduceEqDiff, reduceCtorEq]) | apply aw_ret | apply aw_block | apply aw_condT rfl | apply aw_condF rfl | ((first | refine aw_region ?_ | refine acall0 (slwithin_ac _ _ _) ?_ | refine acall0 (at_ac _) ?_ | refine acallB (ca) (by repeat' (first | exact trivial | exact rfl | refine And.intro ?_ ?_)) (by kernel_rfl) (by kernel_rfl) (by kernel_rfl) ?_ | refine ago_if (by omega) ?_ | skip); simp (disch := first | exact okY | omega) only [ZU, dI, dB, Nat.reduceMul, Nat.reduceAdd, AOpRun, aexec, Nat.reduceBEq, ↓eget_h, run1, isSh, ↓reduceIte, abin, fits, h1, ARun_some, AG_ff, h2])))
    all_goals (refine end_q [] [(48, 48)] ?_ ?_ <;> repeat' (first | exact trivial | exact vr_val _ | exact vr_list _ | refine And.intro ⟨_, rfl, _, rfl, by decide, ?_⟩ ?_ | apply And.intro))
end Go.Proofs.YtgibbaadjbohdaaDoor
