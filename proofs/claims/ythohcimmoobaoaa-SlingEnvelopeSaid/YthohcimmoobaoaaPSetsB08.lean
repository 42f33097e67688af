/- Texts of the laws, shared part 8. No conditions. -/
import Derived.Test.YthohcimmoobaoaaPSetsB07
import Derived.Test.YthohcimmoobaoaaRows
/- What came in or was made, as lists of numbers, in both tongues; old contracts as abstract ones. -/
namespace Go.Proofs.Ythohcimmoobaoaa
open Go.RowKit Lift

section
variable {w : World} {β : Bet} {Z : Blk}
theorem rep_ints {v : Value} {l : List Int} (h : Rep w β Z v (.list (ints l))) : ∃ A c, v = .slice A l.length c ∧ Ints w A l ∧ l.length ≤ c := by
  generalize hd : D.list (ints l) = d at h
  cases h with
  | list0 A c =>
    have : l = [] := by simpa [ints] using hd
    subst this
    exact ⟨A, c, rfl, fun h => by simp at h, by simp⟩
  | list b off c sz L vs hz hb hc hs hcell hrep =>
    cases hd
    refine ⟨_, c, by rw [ints_len], fun hl => ⟨b, off, rfl, hb, fun k hk => ?_⟩, by rw [← ints_len l]; exact hc⟩
    have hk' : k < (ints l).length := by rw [ints_len]; exact hk
    have hg := ints_get l k hk'
    have hsz : sz = 1 := by rw [← hs _ (List.getElem_mem hk'), hg]; rfl
    have h0 : 0 < (ints l)[k].length := by rw [hg]; simp
    have h1 := hcell k 0 hk' h0
    have h2 := hrep k 0 hk' h0
    rw [getElem_of_eq hk' hg 0 h0 (by simp)] at h2
    simp only [List.getElem_cons_zero] at h2
    rw [h1.trans (congrArg some h2.val_eq.symm) |>.symm, hsz]
    simp
  | _ => cases hd
theorem rep_mat {v : Value} {l : List (List Int)} (h : Rep w β Z v (.list (rows l))) : ∃ A c, v = .slice A l.length c ∧ Mat w A l := by
  generalize hd : D.list (rows l) = d at h
  cases h with
  | list0 A c =>
    have : l = [] := by simpa [rows] using hd
    subst this
    exact ⟨A, c, rfl, fun h => by simp at h⟩
  | list b off c sz L vs hz hb hc hs hcell hrep =>
    cases hd
    refine ⟨_, c, by rw [rows_len], fun hl => ⟨b, off, rfl, hb, fun k hk => ?_⟩⟩
    have hk' : k < (rows l).length := by rw [rows_len]; exact hk
    have hg := rows_get l k hk'
    have hsz : sz = 1 := by rw [← hs _ (List.getElem_mem hk'), hg]; rfl
    have h0 : 0 < (rows l)[k].length := by rw [hg]; simp
    have h1 := hcell k 0 hk' h0
    have h2 := hrep k 0 hk' h0
    rw [getElem_of_eq hk' hg 0 h0 (by simp)] at h2
    simp only [List.getElem_cons_zero] at h2
    obtain ⟨A, cc, e1, e2, _⟩ := rep_ints h2
    refine ⟨A, cc, ?_, e2⟩
    rw [hsz, e1] at h1
    simpa using h1
  | _ => cases hd
theorem rep_agg {v : Value} {l : List D} (h : Rep w β Z v (.agg l)) : ∃ cs : Array Value, v = .agg cs ∧ cs.size = l.length ∧ ∀ i (h : i < l.length), Rep w β Z (cs.getD i undef) l[i] := by
  cases h with
  | agg cs _ h1 h2 => exact ⟨cs, rfl, h1, h2⟩
theorem rep_tab {v : Value} {xs ys : List Int} {vs : List (List Int)} (h : Rep w β Z v (tabD xs ys vs)) : ∃ X Y V cx cy cv, v = .agg #[.slice X xs.length cx, .slice Y ys.length cy, .slice V vs.length cv] ∧ TabR w X Y V cx cy cv xs ys vs := by
  obtain ⟨cs, rfl, h1, h2⟩ := rep_agg h
  obtain ⟨X, cx, e0, hX, lx⟩ := rep_ints (h2 0 (by simp))
  obtain ⟨Y, cy, e1, hY, ly⟩ := rep_ints (h2 1 (by simp))
  obtain ⟨V, cv, e2, hV⟩ := rep_mat (h2 2 (by simp))
  refine ⟨X, Y, V, cx, cy, cv, ?_, ⟨hX, hY, hV, lx, ly⟩⟩
  rw [← e0, ← e1, ← e2]
  congr 1
  apply Array.ext
  · simpa using h1
  · intro i h3 h4
    have h5 : i < 3 := by simpa using h4
    match i, h5 with
    | 0, _ => simp [h3]
    | 1, _ => simp [h3]
    | 2, _ => simp [h3]
theorem rep_sp {v : Value} {x : Int × Int} (h : Rep w β Z v (spD x)) : v = .agg #[.int .i64 x.1, .int .i64 x.2] := by
  obtain ⟨cs, rfl, h1, h2⟩ := rep_agg h
  have e0 := (h2 0 (by simp)).val_eq
  have e1 := (h2 1 (by simp)).val_eq
  rw [e0, e1]
  congr 1
  apply Array.ext
  · simpa using h1
  · intro i h3 h4
    have h5 : i < 2 := by simpa using h4
    match i, h5 with
    | 0, _ => simp [h3]
    | 1, _ => simp [h3]
end
theorem args3 {vs : Array Value} (h : vs.size = 3) : vs = #[vs.getD 0 undef, vs.getD 1 undef, vs.getD 2 undef] := by
  apply Array.ext
  · simpa using h
  · intro i h3 h4
    have h5 : i < 3 := by simpa using h4
    match i, h5 with
    | 0, _ => simp [h3]
    | 1, _ => simp [h3]
    | 2, _ => simp [h3]
end Go.Proofs.Ythohcimmoobaoaa
/- Old contracts as abstract ones: tables and bounds. No conditions. -/
namespace Go.Proofs.Ythohcimmoobaoaa
open Go.RowKit Lift

theorem flat_sp (x : Int × Int) (w : World) (β : Bet) (Z : Blk) : Rep w β Z (.agg #[.int .i64 x.1, .int .i64 x.2]) (spD x) :=
  .agg _ _ rfl fun i hi => by
    have : i < 2 := by simpa using hi
    match i, this with
    | 0, _ => exact .val _
    | 1, _ => exact .val _
theorem flat_sp1 (x : Int × Int) (e : Int) (w : World) (β : Bet) (Z : Blk) : Rep w β Z (.tuple #[.agg #[.int .i64 x.1, .int .i64 x.2], .int .i64 e]) (.tup [spD x, dI e]) :=
  .tup _ _ rfl fun i hi => by
    have : i < 2 := by simpa using hi
    match i, this with
    | 0, _ => exact flat_sp x w β Z
    | 1, _ => exact .val _
theorem Tbl.sz {xs ys : List Int} {vs : List (List Int)} (h : Tbl xs ys vs) : TSz xs ys vs := by
  have h1 := h.ax.twelve
  have h2 := h.ay.twelve
  have h3 := h.len
  refine ⟨by omega, by omega, by omega, fun r hr => ?_⟩
  obtain ⟨k, hk, rfl⟩ := List.getElem_of_mem hr
  have := h.row k hk
  simp only [List.getElem?_eq_getElem hk, Option.getD_some] at this
  omega
section
variable {xs ys : List Int} {vs : List (List Int)}
theorem bound_ac (x y : Int × Int) (hS : TSz xs ys vs) : AC Try.prog 35 [tabD xs ys vs, spD x, spD y] [] [] (.tup [spD (boundR xs ys vs x y).1, dI (boundR xs ys vs x y).2]) :=
  ac_of_calls ⟨Try.f35, Try.func35, by decide, rfl⟩ (flat_sp1 _ _) fun w us β Z hs hr => by
    obtain ⟨X, Y, V, cx, cy, cv, e, hR⟩ := rep_tab (hr 0 (by simp))
    rw [args3 hs, e, rep_sp (hr 1 (by simp)), rep_sp (hr 2 (by simp))]
    exact bound_any xs ys vs X Y V cx cy cv x y w hS hR
end
end Go.Proofs.Ythohcimmoobaoaa
/- The functions' bodies, translated. Written by a program; no conditions. -/
namespace Go.Proofs.Ythohcimmoobaoaa
open Go.RowKit Lift

/-- spans_axis -/
def cspans_axis : ACode :=
  (.seq
   (.region false [⟨some 2, .mv (.const (.bool false)), none, []⟩] [])
  (.seq
   (.seq
    (.region false [⟨some 5, .mv (.tmp 0), none, []⟩,
      ⟨some 6, .len_ (.tmp 5), none, []⟩,
      ⟨some 7, .call (.func 96) [(.tmp 6), (.const (.int .i64 2)), (.const (.int .i64 12))], none, []⟩,
      ⟨some 8, .un .not (.tmp 7), none, []⟩] [5, 6, 7])
   (.cond (.tmp 8)
     (.seq
      (.region false [⟨some 2, .mv (.const (.bool false)), none, []⟩] [])
     .ret)
     .skip))
  (.seq
   (.seq
    (.region false [⟨some 9, .mv (.tmp 0), none, []⟩,
      ⟨some 10, .len_ (.tmp 9), none, []⟩,
      ⟨some 11, .mv (.const (.int .i64 0)), none, []⟩] [])
   (.block 0
     (.loop
       (.seq
        (.region false [⟨some 12, .bin .lss (.tmp 11) (.tmp 10), none, []⟩] [])
       (.seq
        (.cond (.tmp 12)
          .skip
          (.exit 0))
       (.seq
        (.block 1
          (.seq
           (.region false [⟨some 13, .mv (.tmp 11), none, []⟩,
             ⟨some 14, .iadS 1 (.tmp 9) (.tmp 11), none, []⟩,
             ⟨some 15, .load1 (.tmp 14), none, []⟩,
             ⟨some 3, .mv (.tmp 13), none, []⟩,
             ⟨some 4, .mv (.tmp 15), none, []⟩] [13, 14, 15])
          (.seq
           (.region false [⟨some 16, .mv (.tmp 4), none, []⟩,
             ⟨some 17, .call (.func 96) [(.tmp 16), (.const (.int .i64 (-1000000))), (.const (.int .i64 1000000))], none, []⟩,
             ⟨some 18, .un .not (.tmp 17), none, []⟩,
             ⟨some 19, .mv (.tmp 18), none, []⟩,
             ⟨some 20, .mv (.tmp 3), (some (some 19, false)), []⟩,
             ⟨some 21, .bin .gtr (.tmp 20) (.const (.int .i64 0)), (some (some 19, false)), []⟩,
             ⟨some 22, .mv (.tmp 21), (some (some 19, false)), []⟩,
             ⟨some 23, .mv (.tmp 4), (some (some 22, true)), []⟩,
             ⟨some 24, .mv (.tmp 0), (some (some 22, true)), []⟩,
             ⟨some 25, .mv (.tmp 3), (some (some 22, true)), []⟩,
             ⟨some 26, .bin .sub (.tmp 25) (.const (.int .i64 1)), (some (some 22, true)), []⟩,
             ⟨some 27, .iadS 1 (.tmp 24) (.tmp 26), (some (some 22, true)), []⟩,
             ⟨some 28, .load1 (.tmp 27), (some (some 22, true)), []⟩,
             ⟨some 29, .bin .sub (.tmp 23) (.tmp 28), (some (some 22, true)), []⟩,
             ⟨some 30, .call (.func 96) [(.tmp 29), (.const (.int .i64 1)), (.const (.int .i64 10000))], (some (some 22, true)), []⟩,
             ⟨some 31, .un .not (.tmp 30), (some (some 22, true)), []⟩,
             ⟨some 32, .pick (.tmp 22) (.tmp 31) (.const (.bool false)), (some (some 19, false)), []⟩,
             ⟨some 33, .pick (.tmp 19) (.const (.bool true)) (.tmp 32), none, []⟩] [16, 17, 18, 19, 20, 21, 22, 23, 24, 25, 26, 27, 28, 29, 30, 31, 32])
          (.cond (.tmp 33)
            (.seq
             (.region false [⟨some 2, .mv (.const (.bool false)), none, []⟩] [])
            .ret)
            .skip))))
       (.region false [⟨some 34, .bin .add (.tmp 11) (.const (.int .i64 1)), none, []⟩,
         ⟨some 11, .mv (.tmp 34), none, []⟩] [34])))))))
  (.seq
   (.region false [⟨some 2, .mv (.const (.bool true)), none, []⟩] [])
  .ret))))
set_option maxRecDepth 100000 in
theorem kspans_axis : IsCode Try.prog 98 35 cspans_axis [.tmp 2] :=
  ⟨Try.f98, _, [33, 12, 8, 0, 11, 10, 9, 4, 3, 2], Try.func98, rfl, by decide, rfl, by kernel_rfl, by kernel_rfl⟩
/-- spans_CheckTable -/
def cspans_CheckTable : ACode :=
  (.seq
   (.region false [⟨some 1, .box (.tmp 0), none, []⟩,
     ⟨some 2, .mv (.const (.int .i64 0)), none, []⟩] [])
  (.seq
   (.region false [⟨some 3, .mem [(.val (.nilFunc))], none, []⟩,
     ⟨none, .store 1 (.tmp 3) (.func 95), none, []⟩] [])
  (.seq
   (.region false [⟨some 5, .mkfn 97 [] [(.tmp 1), (.tmp 3)], none, []⟩,
     ⟨some 4, .mv (.tmp 5), none, []⟩] [5])
  (.seq
   (.seq
    (.region false [⟨some 6, .fad 0 (.tmp 1), none, []⟩,
      ⟨some 7, .load1 (.tmp 6), none, []⟩,
      ⟨some 8, .call (.func 98) [(.tmp 7)], none, []⟩,
      ⟨some 9, .un .not (.tmp 8), none, []⟩,
      ⟨some 10, .mv (.tmp 9), none, []⟩,
      ⟨some 11, .fad 1 (.tmp 1), (some (some 10, false)), []⟩,
      ⟨some 12, .load1 (.tmp 11), (some (some 10, false)), []⟩,
      ⟨some 13, .call (.func 98) [(.tmp 12)], (some (some 10, false)), []⟩,
      ⟨some 14, .un .not (.tmp 13), (some (some 10, false)), []⟩,
      ⟨some 15, .pick (.tmp 10) (.const (.bool true)) (.tmp 14), none, []⟩,
      ⟨some 16, .mv (.tmp 15), none, []⟩,
      ⟨some 17, .fad 2 (.tmp 1), (some (some 16, false)), []⟩,
      ⟨some 18, .load1 (.tmp 17), (some (some 16, false)), []⟩,
      ⟨some 19, .len_ (.tmp 18), (some (some 16, false)), []⟩,
      ⟨some 20, .fad 0 (.tmp 1), (some (some 16, false)), []⟩,
      ⟨some 21, .load1 (.tmp 20), (some (some 16, false)), []⟩,
      ⟨some 22, .len_ (.tmp 21), (some (some 16, false)), []⟩,
      ⟨some 23, .bin .neq (.tmp 19) (.tmp 22), (some (some 16, false)), []⟩,
      ⟨some 24, .pick (.tmp 16) (.const (.bool true)) (.tmp 23), none, []⟩,
      ⟨some 25, .mv (.tmp 24), none, []⟩,
      ⟨some 26, .fad 2 (.tmp 1), (some (some 25, false)), []⟩,
      ⟨some 27, .load1 (.tmp 26), (some (some 25, false)), []⟩,
      ⟨some 28, .mv (.tmp 4), (some (some 25, false)), []⟩,
      ⟨some 29, .call (.func 99) [(.tmp 27), (.tmp 28)], (some (some 25, false)), []⟩,
      ⟨some 30, .pick (.tmp 25) (.const (.bool true)) (.tmp 29), none, []⟩] [6, 7, 8, 9, 10, 11, 12, 13, 14, 15, 16, 17, 18, 19, 20, 21, 22, 23, 24, 25, 26, 27, 28, 29])
   (.cond (.tmp 30)
     (.seq
      (.region false [⟨some 2, .mv (.const (.int .i64 11)), none, []⟩] [])
     .ret)
     .skip))
  (.seq
   (.region false [⟨some 2, .mv (.const (.int .i64 0)), none, []⟩] [])
  .ret)))))
set_option maxRecDepth 100000 in
theorem kspans_CheckTable : IsCode Try.prog 63 31 cspans_CheckTable [.tmp 2] :=
  ⟨Try.f63, _, [30, 0, 1, 3, 4, 2], Try.func63, rfl, by decide, rfl, by kernel_rfl, by kernel_rfl⟩
/-- spans_CheckTable_S1 -/
def cspans_CheckTable_S1 : ACode :=
  (.seq
   (.region false [⟨some 2, .mv (.const (.bool false)), none, []⟩] [])
  (.seq
   (.region false [⟨some 3, .mv (.tmp 0), none, []⟩,
     ⟨some 4, .call (.func 96) [(.tmp 3), (.const (.int .i64 (-1000000))), (.const (.int .i64 1000000))], none, []⟩,
     ⟨some 5, .un .not (.tmp 4), none, []⟩,
     ⟨some 2, .mv (.tmp 5), none, []⟩] [3, 4, 5])
  .ret))
set_option maxRecDepth 100000 in
theorem kspans_CheckTable_S1 : IsCode Try.prog 95 6 cspans_CheckTable_S1 [.tmp 2] :=
  ⟨Try.f95, _, [0, 2], Try.func95, rfl, by decide, rfl, by kernel_rfl, by kernel_rfl⟩
/-- spans_CheckTable_S2 -/
def cspans_CheckTable_S2 : ACode :=
  (.seq
   (.region false [⟨some 4, .mv (.const (.bool false)), none, []⟩] [])
  (.seq
   (.region false [⟨some 5, .mv (.tmp 0), none, []⟩,
     ⟨some 6, .len_ (.tmp 5), none, []⟩,
     ⟨some 7, .fad 1 (.tmp 1), none, []⟩,
     ⟨some 8, .load1 (.tmp 7), none, []⟩,
     ⟨some 9, .len_ (.tmp 8), none, []⟩,
     ⟨some 10, .bin .neq (.tmp 6) (.tmp 9), none, []⟩,
     ⟨some 11, .mv (.tmp 10), none, []⟩,
     ⟨some 12, .mv (.tmp 0), (some (some 11, false)), []⟩,
     ⟨some 13, .load1 (.tmp 2), (some (some 11, false)), []⟩,
     ⟨some 14, .call (.func 51) [(.tmp 12), (.tmp 13)], (some (some 11, false)), []⟩,
     ⟨some 15, .pick (.tmp 11) (.const (.bool true)) (.tmp 14), none, []⟩,
     ⟨some 4, .mv (.tmp 15), none, []⟩] [5, 6, 7, 8, 9, 10, 11, 12, 13, 14, 15])
  .ret))
set_option maxRecDepth 100000 in
theorem kspans_CheckTable_S2 : IsCode Try.prog 97 16 cspans_CheckTable_S2 [.tmp 4] :=
  ⟨Try.f97, _, [0, 1, 2, 4], Try.func97, rfl, by decide, rfl, by kernel_rfl, by kernel_rfl⟩
/-- slices_IndexFunc_L_L_J_L_Jint_K_L_Jint_J -/
def cslices_IndexFunc_L_L_J_L_Jint_K_L_Jint_J : ACode :=
  (.seq
   (.region false [⟨some 4, .mv (.const (.int .i64 0)), none, []⟩] [])
  (.seq
   (.seq
    (.region false [⟨some 6, .mv (.tmp 0), none, []⟩,
      ⟨some 7, .len_ (.tmp 6), none, []⟩,
      ⟨some 8, .mv (.const (.int .i64 0)), none, []⟩] [6])
   (.block 0
     (.loop
       (.seq
        (.region false [⟨some 9, .bin .lss (.tmp 8) (.tmp 7), none, []⟩] [])
       (.seq
        (.cond (.tmp 9)
          .skip
          (.exit 0))
       (.seq
        (.block 1
          (.seq
           (.region false [⟨some 10, .mv (.tmp 8), none, []⟩,
             ⟨some 5, .mv (.tmp 10), none, []⟩] [10])
          (.seq
           (.region false [⟨some 11, .mv (.tmp 1), none, []⟩,
             ⟨some 12, .mv (.tmp 0), none, []⟩,
             ⟨some 13, .mv (.tmp 5), none, []⟩,
             ⟨some 14, .iadS 1 (.tmp 12) (.tmp 13), none, []⟩,
             ⟨some 15, .load1 (.tmp 14), none, []⟩,
             ⟨some 16, .call (.tmp 11) [(.tmp 15)], none, []⟩] [11, 12, 13, 14, 15])
          (.cond (.tmp 16)
            (.seq
             (.region false [⟨some 17, .mv (.tmp 5), none, []⟩,
               ⟨some 4, .mv (.tmp 17), none, []⟩] [17])
            .ret)
            .skip))))
       (.region false [⟨some 18, .bin .add (.tmp 8) (.const (.int .i64 1)), none, []⟩,
         ⟨some 8, .mv (.tmp 18), none, []⟩] [18])))))))
  (.seq
   (.region false [⟨some 4, .mv (.const (.int .i64 (-1))), none, []⟩] [])
  .ret)))
set_option maxRecDepth 100000 in
theorem kslices_IndexFunc_L_L_J_L_Jint_K_L_Jint_J : IsCode Try.prog 111 19 cslices_IndexFunc_L_L_J_L_Jint_K_L_Jint_J [.tmp 4] :=
  ⟨Try.f111, _, [16, 9, 0, 8, 7, 1, 5, 4], Try.func111, rfl, by decide, rfl, by kernel_rfl, by kernel_rfl⟩
/-- slices_ContainsFunc_L_L_J_L_Jint_K_L_Jint_J -/
def cslices_ContainsFunc_L_L_J_L_Jint_K_L_Jint_J : ACode :=
  (.seq
   (.region false [⟨some 4, .mv (.const (.bool false)), none, []⟩] [])
  (.seq
   (.region false [⟨some 5, .mv (.tmp 0), none, []⟩,
     ⟨some 6, .mv (.tmp 1), none, []⟩,
     ⟨some 7, .call (.func 111) [(.tmp 5), (.tmp 6)], none, []⟩,
     ⟨some 8, .bin .geq (.tmp 7) (.const (.int .i64 0)), none, []⟩,
     ⟨some 4, .mv (.tmp 8), none, []⟩] [5, 6, 7, 8])
  .ret))
set_option maxRecDepth 100000 in
theorem kslices_ContainsFunc_L_L_J_L_Jint_K_L_Jint_J : IsCode Try.prog 99 9 cslices_ContainsFunc_L_L_J_L_Jint_K_L_Jint_J [.tmp 4] :=
  ⟨Try.f99, _, [0, 1, 4], Try.func99, rfl, by decide, rfl, by kernel_rfl, by kernel_rfl⟩
end Go.Proofs.Ythohcimmoobaoaa
/- Tables: their check, on abstract values, both sides. No conditions. -/
set_option linter.unusedSimpArgs false
set_option linter.unusedVariables false
namespace Go.Proofs.Ythohcimmoobaoaa
open Go.RowKit Lift

set_option maxRecDepth 100000 in
set_option maxHeartbeats 1000000 in
theorem axis_ac (l : List Int) (hsm : ∀ x ∈ l, -9223372036854775808 ≤ x ∧ x ≤ 9223372036854775807) : AC Try.prog 98 [.list (ints l)] [] [] (dB (axB l)) := by
  refine kspans_axis.ac (n0 := 0) (by simp) ⟨.list _, trivial⟩ trivial rfl ?_
  unfold cspans_axis
  have hw : ∀ n a b : Int, AC Try.prog 96 [dI n, dI a, dI b] [] [] (dB (wB n a b)) := within_ac
  cases hl : wB l.length 2 12 with
  | false =>
    have e : axB l = false := by unfold axB; rw [hl]; rfl
    rw [e]
    (have hg : (987654321 : Nat) - 987654321 = 0 := rfl; have hr := hg; repeat' (first | refine aw_seq ?_ | (refine aw_skip ?_; try simp only [thenQ, blockQ, if_true, if_false, Nat.reduceEqDiff, reduceCtorEq]) | (refine aw_exit ?_; try simp only [thenQ, blockQ, if_true, if_false, Nat.reduceEqDiff, reduceCtorEq]) | refine aw_ret ?_ | refine aw_block ?_ | refine aw_condT rfl ?_ | refine aw_condF rfl ?_ | ((first | refine aw_region ?_ | refine acall0 (hw _ _ _) ?_ | refine ago_if (by omega) ?_ | skip); simp (config := {maxSteps := 10000000}) (disch := first | exact okYes (by kernel_rfl) | omega) only [thenQ, List.map, Int.reduceNeg, dB, List.length, Nat.zero_add, Nat.reduceMul, envOf, ARun_none, AOpRun, aexec, FSt.ev, AGo_ok, St.app, putO, eput_c, Nat.reduceBEq, eput_n, cond_false, hups, ARun_nil, dropE_c, inL_n, dropE_n, Nat.reduceAdd, St.F, ↓eget_h, eget_c, ints_len, hl, Bool.not_false, inL_c, beq_self_eq_true, cond_true])))
    all_goals (refine end_to [] [] (by first | exact .inl rfl | exact .inr rfl) rfl (by kernel_rfl) (by kernel_rfl) (by kernel_rfl) ?_ ?_ <;> repeat' (first | exact trivial | exact vr_val _))
  | true =>
  have h12 := wB_iff.1 hl
  have e : axB l = axFrom none l := by unfold axB; rw [hl]; rfl
  rw [e]
  have gs : ∀ k, k < l.length → -9223372036854775808 ≤ l[k]?.getD 0 ∧ l[k]?.getD 0 ≤ 9223372036854775807 := fun k h => by
    have := hsm l[k] (List.getElem_mem h)
    simpa [h] using this
  (have hg : (987654321 : Nat) - 987654321 = 0 := rfl; have hr := hg; repeat' (first | refine aw_seq ?_ | (refine aw_skip ?_; try simp only [thenQ, blockQ, if_true, if_false, Nat.reduceEqDiff, reduceCtorEq]) | (refine aw_exit ?_; try simp only [thenQ, blockQ, if_true, if_false, Nat.reduceEqDiff, reduceCtorEq]) | refine aw_ret ?_ | refine aw_block ?_ | refine aw_condT rfl ?_ | refine aw_condF rfl ?_ | ((first | refine aw_region ?_ | refine acall0 (hw _ _ _) ?_ | refine ago_if (by omega) ?_ | skip); simp (config := {maxSteps := 10000000}) (disch := first | exact okYes (by kernel_rfl) | omega) only [thenQ, List.map, Int.reduceNeg, dB, List.length, Nat.zero_add, Nat.reduceMul, envOf, ARun_none, AOpRun, aexec, FSt.ev, AGo_ok, St.app, putO, eput_c, Nat.reduceBEq, eput_n, cond_false, hups, ARun_nil, dropE_c, inL_n, dropE_n, Nat.reduceAdd, St.F, ↓eget_h, eget_c, ints_len, hl, Bool.not_true, inL_c, beq_self_eq_true, cond_true])))
  refine aw_loop (fun k : Nat => ⟨[(0, .list (ints l)), (9, .list (ints l)), (10, dI l.length), (11, dI k)], [], 400⟩) (fun k => k ≤ l.length ∧ axFrom none l = axFrom (prev l k) (l.drop k) ∧ (0 < k → -1000000 ≤ l[k-1]?.getD 0 ∧ l[k-1]?.getD 0 ≤ 1000000)) (fun k => l.length - k) ⟨0, ⟨by omega, rfl, by omega⟩, ?_⟩ ?_
  · refine wk_to [] [] (by kernel_rfl) (by kernel_rfl) (by kernel_rfl) (by kernel_rfl) (by kernel_rfl) ?_ ?_ <;> repeat' (first | exact trivial | exact vr_val _ | exact vr_list _ | apply And.intro)
  · rintro k ⟨hk, hv, hpv⟩
    by_cases hk2 : k < l.length
    · have g1 := ints_gd l k hk2
      have gk := gs k hk2
      rw [axFrom_drop l k hk2] at hv
      cases c1 : wB (l[k]?.getD 0) (-1000000) 1000000 with
      | false =>
        rw [c1] at hv
        rw [hv]
        (have hg : (987654321 : Nat) - 987654321 = 0 := rfl; have hr := hg; repeat' (first | refine aw_seq ?_ | (refine aw_skip ?_; try simp only [thenQ, blockQ, if_true, if_false, Nat.reduceEqDiff, reduceCtorEq]) | (refine aw_exit ?_; try simp only [thenQ, blockQ, if_true, if_false, Nat.reduceEqDiff, reduceCtorEq]) | refine aw_ret ?_ | refine aw_block ?_ | refine aw_condT rfl ?_ | refine aw_condF rfl ?_ | (refine aw_cond rfl (fun hg => ?_) (fun hg => ?_) <;> (try (have hq := hg; simp only [Bool.not_eq_true', Bool.not_eq_false', Bool.and_eq_true, Bool.and_eq_false_iff, Bool.or_eq_true, Bool.or_eq_false_iff, decide_eq_true_eq, decide_eq_false_iff_not, bne_iff_ne, beq_iff_eq, beq_eq_false_iff_ne, bne_eq_false_iff_eq, ne_eq, Int.not_lt, Int.not_le, Decidable.not_not] at hq)) <;> (try (have hr := hg; simp only [decide_eq_true_eq, decide_eq_false_iff_not] at hr)) <;> (try (exfalso; omega))) | ((first | refine aw_region ?_ | refine acall0 (hw _ _ _) ?_ | refine ago_if (by omega) ?_ | skip); simp (config := {maxSteps := 10000000}) (disch := first | exact okYes (by kernel_rfl) | omega) only [thenQ, Int.reduceNeg, Bool.false_and, dI, List.length, Nat.zero_add, Nat.reduceMul, Nat.reduceAdd, ARun_none, AOpRun, aexec, FSt.ev, St.F, eget_c, Nat.reduceBEq, ↓eget_h, cond_false, isSh, Bool.false_eq_true, ↓reduceIte, Option.map, abin, AGo_ok, St.app, putO, eput_c, eput_n, hups, List.map, ARun_nil, dropE_c, inL_n, dropE_n, hr, decide_true, Int.natCast_nonneg, ints_all, and_self, opt1, Int.toNat_natCast, g1, run1, List.getElem?_cons_zero, inL_c, beq_self_eq_true, cond_true, dB, c1, Bool.not_false, ARun_some, AG_tf, AG_un, blockQ])))
        all_goals (refine end_to [] [] (by first | exact .inl rfl | exact .inr rfl) rfl (by kernel_rfl) (by kernel_rfl) (by kernel_rfl) ?_ ?_ <;> repeat' (first | exact trivial | exact vr_val _))
      | true =>
        rw [c1] at hv
        have b1 := wB_iff.1 c1
        rcases Nat.eq_zero_or_pos k with rfl | hk0
        · simp only [if_pos, Bool.true_and] at hv
          (have hg : (987654321 : Nat) - 987654321 = 0 := rfl; have hr := hg; repeat' (first | refine aw_seq ?_ | (refine aw_skip ?_; try simp only [thenQ, blockQ, if_true, if_false, Nat.reduceEqDiff, reduceCtorEq]) | (refine aw_exit ?_; try simp only [thenQ, blockQ, if_true, if_false, Nat.reduceEqDiff, reduceCtorEq]) | refine aw_ret ?_ | refine aw_block ?_ | refine aw_condT rfl ?_ | refine aw_condF rfl ?_ | (refine aw_cond rfl (fun hg => ?_) (fun hg => ?_) <;> (try (have hq := hg; simp only [Bool.not_eq_true', Bool.not_eq_false', Bool.and_eq_true, Bool.and_eq_false_iff, Bool.or_eq_true, Bool.or_eq_false_iff, decide_eq_true_eq, decide_eq_false_iff_not, bne_iff_ne, beq_iff_eq, beq_eq_false_iff_ne, bne_eq_false_iff_eq, ne_eq, Int.not_lt, Int.not_le, Decidable.not_not] at hq)) <;> (try (have hr := hg; simp only [decide_eq_true_eq, decide_eq_false_iff_not] at hr)) <;> (try (exfalso; omega))) | (refine ag_bool (fun hg => ?_) (fun hg => ?_) <;> (try (have hq := hg; simp only [Bool.not_eq_true', Bool.not_eq_false', Bool.and_eq_true, Bool.and_eq_false_iff, Bool.or_eq_true, Bool.or_eq_false_iff, decide_eq_true_eq, decide_eq_false_iff_not, bne_iff_ne, beq_iff_eq, beq_eq_false_iff_ne, bne_eq_false_iff_eq, ne_eq, Int.not_lt, Int.not_le, Decidable.not_not] at hq)) <;> (try (have hr := hg; simp only [decide_eq_true_eq, decide_eq_false_iff_not] at hr)) <;> (try (exfalso; omega)) <;> simp (config := {maxSteps := 10000000}) (disch := first | exact okYes (by kernel_rfl) | omega) only [Int.reduceNeg, hr, decide_false, AG_ft, Nat.reduceAdd, St.app, putO, eput_c, Nat.reduceBEq, eput_n, cond_false, hups, ARun_some, eget_c, ↓eget_h, AG_ff, AOpRun, aexec, FSt.ev, St.F, Bool.false_eq_true, ↓reduceIte, AGo_ok, List.map, ARun_none, ARun_nil, dropE_c, inL_c, inL_n, beq_self_eq_true, cond_true, dropE_n]) | ((first | refine aw_region ?_ | refine acall0 (hw _ _ _) ?_ | refine ago_if (by omega) ?_ | skip); simp (config := {maxSteps := 10000000}) (disch := first | exact okYes (by kernel_rfl) | omega) only [thenQ, Int.reduceNeg, dI, List.length, Nat.zero_add, Nat.reduceMul, Nat.reduceAdd, cast_lit, ARun_none, AOpRun, aexec, FSt.ev, St.F, eget_c, Nat.reduceBEq, ↓eget_h, cond_false, isSh, Bool.false_eq_true, ↓reduceIte, Option.map, abin, AGo_ok, St.app, putO, eput_c, eput_n, hups, List.map, ARun_nil, dropE_c, inL_n, dropE_n, hr, decide_true, Int.le_refl, ints_all, and_self, opt1, Int.toNat_zero, g1, run1, List.getElem?_cons_zero, inL_c, beq_self_eq_true, cond_true, dB, c1, Bool.not_true, ARun_some, AG_ff, Int.reduceAdd, fits])))
          exact ⟨0 + 1, ⟨by omega, hv, fun _ => b1⟩, by omega, by refine wk_to [] [] (by kernel_rfl) (by kernel_rfl) (by kernel_rfl) (by kernel_rfl) (by kernel_rfl) ?_ ?_ <;> repeat' (first | exact trivial | exact vr_val _ | exact vr_list _ | apply And.intro)⟩
        · rw [if_neg (by omega)] at hv
          have g2 := ints_gd l (k - 1) (by omega)
          have k1 : ((k : Int) - 1).toNat = k - 1 := by omega
          have k2 : ((k : Int) - 1) = ((k - 1 : Nat) : Int) := by omega
          have k0 : decide ((k : Int) > 0) = true := decide_eq_true (by omega)
          have gp := hpv hk0
          have hkn := hk0
          cases c2 : wB (l[k]?.getD 0 - l[k - 1]?.getD 0) 1 10000 with
          | false =>
            rw [c2] at hv
            rw [hv]
            (have hg : (987654321 : Nat) - 987654321 = 0 := rfl; have hr := hg; repeat' (first | refine aw_seq ?_ | (refine aw_skip ?_; try simp only [thenQ, blockQ, if_true, if_false, Nat.reduceEqDiff, reduceCtorEq]) | (refine aw_exit ?_; try simp only [thenQ, blockQ, if_true, if_false, Nat.reduceEqDiff, reduceCtorEq]) | refine aw_ret ?_ | refine aw_block ?_ | refine aw_condT rfl ?_ | refine aw_condF rfl ?_ | (refine aw_cond rfl (fun hg => ?_) (fun hg => ?_) <;> (try (have hq := hg; simp only [Bool.not_eq_true', Bool.not_eq_false', Bool.and_eq_true, Bool.and_eq_false_iff, Bool.or_eq_true, Bool.or_eq_false_iff, decide_eq_true_eq, decide_eq_false_iff_not, bne_iff_ne, beq_iff_eq, beq_eq_false_iff_ne, bne_eq_false_iff_eq, ne_eq, Int.not_lt, Int.not_le, Decidable.not_not] at hq)) <;> (try (have hr := hg; simp only [decide_eq_true_eq, decide_eq_false_iff_not] at hr)) <;> (try (exfalso; omega))) | ((first | refine aw_region ?_ | refine acall0 (hw _ _ _) ?_ | refine ago_if (by omega) ?_ | skip); simp (config := {maxSteps := 10000000}) (disch := first | exact okYes (by kernel_rfl) | omega) only [thenQ, Int.reduceNeg, Bool.and_false, Bool.false_and, dI, List.length, Nat.zero_add, Nat.reduceMul, Nat.reduceAdd, ARun_none, AOpRun, aexec, FSt.ev, St.F, eget_c, Nat.reduceBEq, ↓eget_h, cond_false, isSh, Bool.false_eq_true, ↓reduceIte, Option.map, abin, AGo_ok, St.app, putO, eput_c, eput_n, hups, List.map, ARun_nil, dropE_c, inL_n, dropE_n, hr, decide_true, Int.natCast_nonneg, ints_all, and_self, opt1, Int.toNat_natCast, g1, run1, List.getElem?_cons_zero, inL_c, beq_self_eq_true, cond_true, dB, c1, Bool.not_true, ARun_some, AG_ff, k0, AG_tt, fits, and_true, k1, g2, c2, Bool.not_false, blockQ])))
            all_goals (refine end_to [] [] (by first | exact .inl rfl | exact .inr rfl) rfl (by kernel_rfl) (by kernel_rfl) (by kernel_rfl) ?_ ?_ <;> repeat' (first | exact trivial | exact vr_val _))
          | true =>
            rw [c2] at hv
            simp only [Bool.true_and] at hv
            (have hg : (987654321 : Nat) - 987654321 = 0 := rfl; have hr := hg; repeat' (first | refine aw_seq ?_ | (refine aw_skip ?_; try simp only [thenQ, blockQ, if_true, if_false, Nat.reduceEqDiff, reduceCtorEq]) | (refine aw_exit ?_; try simp only [thenQ, blockQ, if_true, if_false, Nat.reduceEqDiff, reduceCtorEq]) | refine aw_ret ?_ | refine aw_block ?_ | refine aw_condT rfl ?_ | refine aw_condF rfl ?_ | (refine aw_cond rfl (fun hg => ?_) (fun hg => ?_) <;> (try (have hq := hg; simp only [Bool.not_eq_true', Bool.not_eq_false', Bool.and_eq_true, Bool.and_eq_false_iff, Bool.or_eq_true, Bool.or_eq_false_iff, decide_eq_true_eq, decide_eq_false_iff_not, bne_iff_ne, beq_iff_eq, beq_eq_false_iff_ne, bne_eq_false_iff_eq, ne_eq, Int.not_lt, Int.not_le, Decidable.not_not] at hq)) <;> (try (have hr := hg; simp only [decide_eq_true_eq, decide_eq_false_iff_not] at hr)) <;> (try (exfalso; omega))) | ((first | refine aw_region ?_ | refine acall0 (hw _ _ _) ?_ | refine ago_if (by omega) ?_ | skip); simp (config := {maxSteps := 10000000}) (disch := first | exact okYes (by kernel_rfl) | omega) only [thenQ, Int.reduceNeg, dI, List.length, Nat.zero_add, Nat.reduceMul, Nat.reduceAdd, ARun_none, AOpRun, aexec, FSt.ev, St.F, eget_c, Nat.reduceBEq, ↓eget_h, cond_false, isSh, Bool.false_eq_true, ↓reduceIte, Option.map, abin, AGo_ok, St.app, putO, eput_c, eput_n, hups, List.map, ARun_nil, dropE_c, inL_n, dropE_n, hr, decide_true, Int.natCast_nonneg, ints_all, and_self, opt1, Int.toNat_natCast, g1, run1, List.getElem?_cons_zero, inL_c, beq_self_eq_true, cond_true, dB, c1, Bool.not_true, ARun_some, AG_ff, k0, AG_tt, fits, and_true, k1, g2, c2])))
            exact ⟨k + 1, ⟨by omega, hv, fun _ => b1⟩, by omega, by refine wk_to [] [] (by kernel_rfl) (by kernel_rfl) (by kernel_rfl) (by kernel_rfl) (by kernel_rfl) ?_ ?_ <;> repeat' (first | exact trivial | exact vr_val _ | exact vr_list _ | apply And.intro)⟩
    · obtain rfl : k = l.length := by omega
      rw [hv, List.drop_length]
      (have hg : (987654321 : Nat) - 987654321 = 0 := rfl; have hr := hg; repeat' (first | refine aw_seq ?_ | (refine aw_skip ?_; try simp only [thenQ, blockQ, if_true, if_false, Nat.reduceEqDiff, reduceCtorEq]) | (refine aw_exit ?_; try simp only [thenQ, blockQ, if_true, if_false, Nat.reduceEqDiff, reduceCtorEq]) | refine aw_ret ?_ | refine aw_block ?_ | refine aw_condT rfl ?_ | refine aw_condF rfl ?_ | (refine aw_cond rfl (fun hg => ?_) (fun hg => ?_) <;> (try (have hq := hg; simp only [Bool.not_eq_true', Bool.not_eq_false', Bool.and_eq_true, Bool.and_eq_false_iff, Bool.or_eq_true, Bool.or_eq_false_iff, decide_eq_true_eq, decide_eq_false_iff_not, bne_iff_ne, beq_iff_eq, beq_eq_false_iff_ne, bne_eq_false_iff_eq, ne_eq, Int.not_lt, Int.not_le, Decidable.not_not] at hq)) <;> (try (have hr := hg; simp only [decide_eq_true_eq, decide_eq_false_iff_not] at hr)) <;> (try (exfalso; omega))) | ((first | refine aw_region ?_ | refine ago_if (by omega) ?_ | skip); simp (config := {maxSteps := 10000000}) (disch := first | exact okYes (by kernel_rfl) | omega) only [thenQ, Int.reduceNeg, dI, List.length, Nat.zero_add, Nat.reduceMul, Nat.reduceAdd, ARun_none, AOpRun, aexec, FSt.ev, St.F, eget_c, Nat.reduceBEq, ↓eget_h, cond_false, isSh, Bool.false_eq_true, ↓reduceIte, Option.map, abin, AGo_ok, St.app, putO, eput_c, eput_n, hups, List.map, ARun_nil, dropE_c, inL_n, dropE_n, hr, decide_false])))
      all_goals (refine end_to [] [] (by first | exact .inl rfl | exact .inr rfl) rfl (by kernel_rfl) (by kernel_rfl) (by kernel_rfl) ?_ ?_ <;> repeat' (first | exact trivial | exact vr_val _))
set_option maxRecDepth 100000 in
set_option maxHeartbeats 1000000 in
theorem ct1_ac (g : Int) : AC Try.prog 95 [dI g] [] [] (dB (!wB g (-1000000) 1000000)) := by
  refine kspans_CheckTable_S1.ac (n0 := 0) (by simp) ⟨.val _, trivial⟩ trivial rfl ?_
  unfold cspans_CheckTable_S1
  have hw : ∀ n a b : Int, AC Try.prog 96 [dI n, dI a, dI b] [] [] (dB (wB n a b)) := within_ac
  (have hg : (987654321 : Nat) - 987654321 = 0 := rfl; have hr := hg; repeat' (first | refine aw_seq ?_ | (refine aw_skip ?_; try simp only [thenQ, blockQ, if_true, if_false, Nat.reduceEqDiff, reduceCtorEq]) | (refine aw_exit ?_; try simp only [thenQ, blockQ, if_true, if_false, Nat.reduceEqDiff, reduceCtorEq]) | refine aw_ret ?_ | refine aw_block ?_ | refine aw_condT rfl ?_ | refine aw_condF rfl ?_ | ((first | refine aw_region ?_ | refine acall0 (hw _ _ _) ?_ | refine ago_if (by omega) ?_ | skip); simp (config := {maxSteps := 10000000}) (disch := first | exact okYes (by kernel_rfl) | omega) only [thenQ, List.map, Int.reduceNeg, dB, List.length, Nat.zero_add, Nat.reduceMul, envOf, dI, ARun_none, AOpRun, aexec, FSt.ev, AGo_ok, St.app, putO, eput_c, Nat.reduceBEq, eput_n, cond_false, hups, ARun_nil, dropE_c, inL_n, dropE_n, Nat.reduceAdd, St.F, ↓eget_h, eget_c, beq_self_eq_true, cond_true, inL_c])))
  all_goals (refine end_to [] [] (by first | exact .inl rfl | exact .inr rfl) rfl (by kernel_rfl) (by kernel_rfl) (by kernel_rfl) ?_ ?_ <;> repeat' (first | exact trivial | exact vr_val _))
set_option maxRecDepth 100000 in
set_option maxHeartbeats 1000000 in
theorem tabI_ac  (l : List Int) (hl : l.length ≤ 1000000) : AC Try.prog 92 [.list (ints l), .fn 95 [] []] [] [] (dI (ixOf (fun x => !wB x (-1000000) 1000000) l)) := by
  refine kslices_IndexFunc_L_L_Jint_Kint_J.ac (n0 := 0) (by simp) ⟨.list _, .fn _ _ _ (by simp) (by simp), trivial⟩ trivial rfl ?_
  unfold cslices_IndexFunc_L_L_Jint_Kint_J
  generalize hp : (fun x => !wB x (-1000000) 1000000) = p
  have hpa : ∀ x, p x = (fun x => !wB x (-1000000) 1000000) x := fun x => by rw [hp]
  generalize hR : ixOf p l = R
  (have hg : (987654321 : Nat) - 987654321 = 0 := rfl; have hr := hg; repeat' (first | refine aw_seq ?_ | (refine aw_skip ?_; try simp only [thenQ, blockQ, if_true, if_false, Nat.reduceEqDiff, reduceCtorEq]) | (refine aw_exit ?_; try simp only [thenQ, blockQ, if_true, if_false, Nat.reduceEqDiff, reduceCtorEq]) | refine aw_ret ?_ | refine aw_block ?_ | refine aw_condT rfl ?_ | refine aw_condF rfl ?_ | ((first | refine aw_region ?_ | refine ago_if (by omega) ?_ | skip); simp (config := {maxSteps := 10000000}) (disch := first | exact okYes (by kernel_rfl) | omega) only [thenQ, List.map, Int.reduceNeg, List.length, Nat.zero_add, Nat.reduceMul, envOf, ARun_none, AOpRun, aexec, FSt.ev, AGo_ok, St.app, putO, eput_c, Nat.reduceBEq, eput_n, cond_false, hups, ARun_nil, dropE_c, inL_n, dropE_n, Nat.reduceAdd, St.F, ↓eget_h, eget_c, ints_len, inL_c, beq_self_eq_true, cond_true])))
  refine aw_loop (fun k : Nat => ⟨[(0, .list (ints l)), (1, .fn 95 [] []), (7, dI l.length), (8, dI k)], [], 400⟩) (fun k => k ≤ l.length ∧ ∀ j, j < k → p (l[j]?.getD 0) = false) (fun k => l.length - k) ⟨0, ⟨by omega, by omega⟩, ?_⟩ ?_
  · refine wk_to [] [] (by kernel_rfl) (by kernel_rfl) (by kernel_rfl) (by kernel_rfl) (by kernel_rfl) ?_ ?_ <;> repeat' (first | exact trivial | exact vr_val _ | exact vr_list _ | apply vr_fn | apply And.intro)
  · rintro k ⟨hk, hv⟩
    by_cases hk2 : k < l.length
    · have g1 := ints_gd l k hk2
      cases hx : p (l[k]?.getD 0) with
      | true =>
        have hx2 := hx
        rw [hpa] at hx2
        rw [← hR, ixOf_some hk2 hv hx]
        (have hg : (987654321 : Nat) - 987654321 = 0 := rfl; have hr := hg; repeat' (first | refine aw_seq ?_ | (refine aw_skip ?_; try simp only [thenQ, blockQ, if_true, if_false, Nat.reduceEqDiff, reduceCtorEq]) | (refine aw_exit ?_; try simp only [thenQ, blockQ, if_true, if_false, Nat.reduceEqDiff, reduceCtorEq]) | refine aw_ret ?_ | refine aw_block ?_ | refine aw_condT rfl ?_ | refine aw_condF rfl ?_ | (refine aw_cond rfl (fun hg => ?_) (fun hg => ?_) <;> (try (have hq := hg; simp only [Bool.not_eq_true', Bool.not_eq_false', Bool.and_eq_true, Bool.and_eq_false_iff, Bool.or_eq_true, Bool.or_eq_false_iff, decide_eq_true_eq, decide_eq_false_iff_not, bne_iff_ne, beq_iff_eq, beq_eq_false_iff_ne, bne_eq_false_iff_eq, ne_eq, Int.not_lt, Int.not_le, Decidable.not_not] at hq)) <;> (try (have hr := hg; simp only [decide_eq_true_eq, decide_eq_false_iff_not] at hr)) <;> (try (exfalso; omega))) | ((first | refine aw_region ?_ | refine acall0 (ct1_ac _) ?_ | refine ago_if (by omega) ?_ | skip); simp (config := {maxSteps := 10000000}) (disch := first | exact okYes (by kernel_rfl) | omega) only [thenQ, dI, Int.reduceNeg, List.length, Nat.zero_add, Nat.reduceMul, Nat.reduceAdd, ARun_none, AOpRun, aexec, FSt.ev, St.F, eget_c, Nat.reduceBEq, ↓eget_h, cond_false, isSh, Bool.false_eq_true, ↓reduceIte, Option.map, abin, AGo_ok, St.app, putO, eput_c, eput_n, hups, List.map, ARun_nil, dropE_c, inL_n, dropE_n, hr, decide_true, inL_c, beq_self_eq_true, cond_true, Int.natCast_nonneg, ints_all, and_self, opt1, Int.toNat_natCast, g1, run1, List.getElem?_cons_zero, dB, hx2, blockQ])))
        all_goals (refine end_to [] [] (by first | exact .inl rfl | exact .inr rfl) rfl (by kernel_rfl) (by kernel_rfl) (by kernel_rfl) ?_ ?_ <;> repeat' (first | exact trivial | exact vr_val _))
      | false =>
        have hx2 := hx
        rw [hpa] at hx2
        (have hg : (987654321 : Nat) - 987654321 = 0 := rfl; have hr := hg; repeat' (first | refine aw_seq ?_ | (refine aw_skip ?_; try simp only [thenQ, blockQ, if_true, if_false, Nat.reduceEqDiff, reduceCtorEq]) | (refine aw_exit ?_; try simp only [thenQ, blockQ, if_true, if_false, Nat.reduceEqDiff, reduceCtorEq]) | refine aw_ret ?_ | refine aw_block ?_ | refine aw_condT rfl ?_ | refine aw_condF rfl ?_ | (refine aw_cond rfl (fun hg => ?_) (fun hg => ?_) <;> (try (have hq := hg; simp only [Bool.not_eq_true', Bool.not_eq_false', Bool.and_eq_true, Bool.and_eq_false_iff, Bool.or_eq_true, Bool.or_eq_false_iff, decide_eq_true_eq, decide_eq_false_iff_not, bne_iff_ne, beq_iff_eq, beq_eq_false_iff_ne, bne_eq_false_iff_eq, ne_eq, Int.not_lt, Int.not_le, Decidable.not_not] at hq)) <;> (try (have hr := hg; simp only [decide_eq_true_eq, decide_eq_false_iff_not] at hr)) <;> (try (exfalso; omega))) | ((first | refine aw_region ?_ | refine acall0 (ct1_ac _) ?_ | refine ago_if (by omega) ?_ | skip); simp (config := {maxSteps := 10000000}) (disch := first | exact okYes (by kernel_rfl) | omega) only [thenQ, dI, Int.reduceNeg, List.length, Nat.zero_add, Nat.reduceMul, Nat.reduceAdd, ARun_none, AOpRun, aexec, FSt.ev, St.F, eget_c, Nat.reduceBEq, ↓eget_h, cond_false, isSh, Bool.false_eq_true, ↓reduceIte, Option.map, abin, AGo_ok, St.app, putO, eput_c, eput_n, hups, List.map, ARun_nil, dropE_c, inL_n, dropE_n, hr, decide_true, inL_c, beq_self_eq_true, cond_true, Int.natCast_nonneg, ints_all, and_self, opt1, Int.toNat_natCast, g1, run1, List.getElem?_cons_zero, dB, hx2, fits])))
        exact ⟨k + 1, ⟨by omega, prev_next hv hx⟩, by omega, by refine wk_to [] [] (by kernel_rfl) (by kernel_rfl) (by kernel_rfl) (by kernel_rfl) (by kernel_rfl) ?_ ?_ <;> repeat' (first | exact trivial | exact vr_val _ | exact vr_list _ | apply vr_fn | apply And.intro)⟩
    · obtain rfl : k = l.length := by omega
      rw [← hR, ixOf_none hv]
      (have hg : (987654321 : Nat) - 987654321 = 0 := rfl; have hr := hg; repeat' (first | refine aw_seq ?_ | (refine aw_skip ?_; try simp only [thenQ, blockQ, if_true, if_false, Nat.reduceEqDiff, reduceCtorEq]) | (refine aw_exit ?_; try simp only [thenQ, blockQ, if_true, if_false, Nat.reduceEqDiff, reduceCtorEq]) | refine aw_ret ?_ | refine aw_block ?_ | refine aw_condT rfl ?_ | refine aw_condF rfl ?_ | (refine aw_cond rfl (fun hg => ?_) (fun hg => ?_) <;> (try (have hq := hg; simp only [Bool.not_eq_true', Bool.not_eq_false', Bool.and_eq_true, Bool.and_eq_false_iff, Bool.or_eq_true, Bool.or_eq_false_iff, decide_eq_true_eq, decide_eq_false_iff_not, bne_iff_ne, beq_iff_eq, beq_eq_false_iff_ne, bne_eq_false_iff_eq, ne_eq, Int.not_lt, Int.not_le, Decidable.not_not] at hq)) <;> (try (have hr := hg; simp only [decide_eq_true_eq, decide_eq_false_iff_not] at hr)) <;> (try (exfalso; omega))) | ((first | refine aw_region ?_ | refine ago_if (by omega) ?_ | skip); simp (config := {maxSteps := 10000000}) (disch := first | exact okYes (by kernel_rfl) | omega) only [thenQ, dI, Int.reduceNeg, List.length, Nat.zero_add, Nat.reduceMul, Nat.reduceAdd, ARun_none, AOpRun, aexec, FSt.ev, St.F, eget_c, Nat.reduceBEq, ↓eget_h, cond_false, isSh, Bool.false_eq_true, ↓reduceIte, Option.map, abin, AGo_ok, St.app, putO, eput_c, eput_n, hups, List.map, ARun_nil, dropE_c, inL_n, dropE_n, hr, decide_false])))
      all_goals (refine end_to [] [] (by first | exact .inl rfl | exact .inr rfl) rfl (by kernel_rfl) (by kernel_rfl) (by kernel_rfl) ?_ ?_ <;> repeat' (first | exact trivial | exact vr_val _))
set_option maxRecDepth 100000 in
set_option maxHeartbeats 1000000 in
theorem tabC_ac  (l : List Int) (hl : l.length ≤ 1000000) : AC Try.prog 51 [.list (ints l), .fn 95 [] []] [] [] (dB (l.any (fun x => !wB x (-1000000) 1000000))) := by
  refine kslices_ContainsFunc_L_L_Jint_Kint_J.ac (n0 := 0) (by simp) ⟨.list _, .fn _ _ _ (by simp) (by simp), trivial⟩ trivial rfl ?_
  unfold cslices_ContainsFunc_L_L_Jint_Kint_J
  rw [← ixOf_ge]
  (have hg : (987654321 : Nat) - 987654321 = 0 := rfl; have hr := hg; repeat' (first | refine aw_seq ?_ | (refine aw_skip ?_; try simp only [thenQ, blockQ, if_true, if_false, Nat.reduceEqDiff, reduceCtorEq]) | (refine aw_exit ?_; try simp only [thenQ, blockQ, if_true, if_false, Nat.reduceEqDiff, reduceCtorEq]) | refine aw_ret ?_ | refine aw_block ?_ | refine aw_condT rfl ?_ | refine aw_condF rfl ?_ | ((first | refine aw_region ?_ | refine acall0 (tabI_ac  l hl) ?_ | refine ago_if (by omega) ?_ | skip); simp (config := {maxSteps := 10000000}) (disch := first | exact okYes (by kernel_rfl) | omega) only [thenQ, List.map, Int.reduceNeg, List.length, Nat.zero_add, Nat.reduceMul, envOf, ARun_none, AOpRun, aexec, FSt.ev, AGo_ok, St.app, putO, eput_c, Nat.reduceBEq, eput_n, cond_false, hups, ARun_nil, dropE_c, inL_n, dropE_n, Nat.reduceAdd, St.F, ↓eget_h, eget_c, dI, isSh, Bool.false_eq_true, ↓reduceIte, Option.map, abin, beq_self_eq_true, cond_true, inL_c])))
  all_goals (refine end_to [] [] (by first | exact .inl rfl | exact .inr rfl) rfl (by kernel_rfl) (by kernel_rfl) (by kernel_rfl) ?_ ?_ <;> repeat' (first | exact trivial | exact vr_val _))
def tabC (xs ys : List Int) (vs : List (List Int)) : List D := [.list (ints xs), .list (ints ys), .list (rows vs)]
theorem tabC_in (xs ys : List Int) (vs : List (List Int)) (n : Nat) : ∀ d ∈ tabC xs ys vs, In (· < n) d := by
  intro d hd
  simp only [tabC, List.mem_cons, List.not_mem_nil, or_false] at hd
  rcases hd with rfl | rfl | rfl <;> exact .list _
theorem hin2 (xs ys : List Int) (vs : List (List Int)) : allHp 24 [(0, tabC xs ys vs), (16, [.fn 95 [] []])] :=
  ⟨⟨by omega, tabC_in _ _ _ _⟩, ⟨by omega, by intro d hd; simp at hd; subst hd; exact .fn _ _ _ (by simp) (by simp)⟩, trivial⟩
set_option maxRecDepth 100000 in
set_option maxHeartbeats 1000000 in
theorem ct2_ac (xs ys : List Int) (vs : List (List Int)) (r : List Int) (hyl : ys.length ≤ 12) : AC Try.prog 97 [.list (ints r), .ptr 0 0, .ptr 16 0] [(0, tabC xs ys vs), (16, [.fn 95 [] []])] [(0, some (tabC xs ys vs)), (16, some [.fn 95 [] []])] (dB (rowBad ys.length r)) := by
  refine kspans_CheckTable_S2.ac (n0 := 24) (by simp) ⟨.list _, .ptr _ _ (by omega), .ptr _ _ (by omega), trivial⟩ (hin2 xs ys vs) rfl ?_
  unfold cspans_CheckTable_S2 tabC
  by_cases hl : r.length = ys.length
  · have h1 : ((r.length : Int) != (ys.length : Int)) = false := by simp; omega
    have e : rowBad ys.length r = r.any (fun x => !wB x (-1000000) 1000000) := by unfold rowBad; rw [h1]; rfl
    rw [e]
    (have hg : (987654321 : Nat) - 987654321 = 0 := rfl; have hr := hg; repeat' (first | refine aw_seq ?_ | (refine aw_skip ?_; try simp only [thenQ, blockQ, if_true, if_false, Nat.reduceEqDiff, reduceCtorEq]) | (refine aw_exit ?_; try simp only [thenQ, blockQ, if_true, if_false, Nat.reduceEqDiff, reduceCtorEq]) | refine aw_ret ?_ | refine aw_block ?_ | refine aw_condT rfl ?_ | refine aw_condF rfl ?_ | ((first | refine aw_region ?_ | refine acall0 (tabC_ac r (by omega)) ?_ | refine ago_if (by omega) ?_ | skip); simp (config := {maxSteps := 10000000}) (disch := first | exact okYes (by kernel_rfl) | omega) only [thenQ, List.map, Int.reduceNeg, List.length, Nat.zero_add, Nat.reduceMul, Nat.reduceAdd, envOf, ARun_none, AOpRun, aexec, FSt.ev, AGo_ok, St.app, putO, eput_c, Nat.reduceBEq, eput_n, cond_false, hups, ARun_nil, dropE_c, inL_n, dropE_n, St.F, ↓eget_h, eget_c, ints_len, Option.map, run1, hget_c, beq_self_eq_true, hget_n, cond_true, List.getElem?_cons_succ, List.getElem?_cons_zero, isSh, Bool.false_eq_true, ↓reduceIte, abin, h1, ARun_some, AG_ff, ↓hget_h, inL_c])))
    all_goals (refine end_to [] [(0, 0), (16, 16)] (by first | exact .inl rfl | exact .inr rfl) rfl (by kernel_rfl) (by kernel_rfl) (by kernel_rfl) ?_ ?_ <;> repeat' (first | exact trivial | exact vr_val _ | exact vr_list _ | apply vr_fn | refine And.intro ⟨_, rfl, _, rfl, by decide, ?_⟩ ?_ | apply And.intro))
  · have h1 : ((r.length : Int) != (ys.length : Int)) = true := by simp; omega
    have e : rowBad ys.length r = true := by unfold rowBad; rw [h1]; rfl
    rw [e]
    (have hg : (987654321 : Nat) - 987654321 = 0 := rfl; have hr := hg; repeat' (first | refine aw_seq ?_ | (refine aw_skip ?_; try simp only [thenQ, blockQ, if_true, if_false, Nat.reduceEqDiff, reduceCtorEq]) | (refine aw_exit ?_; try simp only [thenQ, blockQ, if_true, if_false, Nat.reduceEqDiff, reduceCtorEq]) | refine aw_ret ?_ | refine aw_block ?_ | refine aw_condT rfl ?_ | refine aw_condF rfl ?_ | ((first | refine aw_region ?_ | refine ago_if (by omega) ?_ | skip); simp (config := {maxSteps := 10000000}) (disch := first | exact okYes (by kernel_rfl) | omega) only [thenQ, List.map, List.length, Nat.zero_add, Nat.reduceMul, Nat.reduceAdd, envOf, ARun_none, AOpRun, aexec, FSt.ev, AGo_ok, St.app, putO, eput_c, Nat.reduceBEq, eput_n, cond_false, hups, ARun_nil, dropE_c, inL_n, dropE_n, St.F, ↓eget_h, eget_c, ints_len, Option.map, run1, hget_c, beq_self_eq_true, hget_n, cond_true, List.getElem?_cons_succ, List.getElem?_cons_zero, isSh, Bool.false_eq_true, ↓reduceIte, abin, h1, ARun_some, AG_tf, inL_c])))
    all_goals (refine end_to [] [(0, 0), (16, 16)] (by first | exact .inl rfl | exact .inr rfl) rfl (by kernel_rfl) (by kernel_rfl) (by kernel_rfl) ?_ ?_ <;> repeat' (first | exact trivial | exact vr_val _ | exact vr_list _ | apply vr_fn | refine And.intro ⟨_, rfl, _, rfl, by decide, ?_⟩ ?_ | apply And.intro))
set_option maxRecDepth 100000 in
set_option maxHeartbeats 1000000 in
theorem rowI_ac (xs ys : List Int) (vs : List (List Int)) (hyl : ys.length ≤ 12) (l : List (List Int)) (hl : l.length ≤ 1000000) : AC Try.prog 111 [.list (rows l), .fn 97 [] [.ptr 0 0, .ptr 16 0]] [(0, tabC xs ys vs), (16, [.fn 95 [] []])] [(0, some (tabC xs ys vs)), (16, some [.fn 95 [] []])] (dI (ixOf (rowBad ys.length) l)) := by
  refine kslices_IndexFunc_L_L_J_L_Jint_K_L_Jint_J.ac (n0 := 24) (by simp) ⟨.list _, .fn _ _ _ (by simp) (by intro d hd; simp at hd; rcases hd with rfl | rfl <;> exact .ptr _ _ (by omega)), trivial⟩ (hin2 xs ys vs) rfl ?_
  unfold cslices_IndexFunc_L_L_J_L_Jint_K_L_Jint_J
  generalize hp : (rowBad ys.length) = p
  have hpa : ∀ x, p x = (rowBad ys.length) x := fun x => by rw [hp]
  generalize hR : ixOf p l = R
  (have hg : (987654321 : Nat) - 987654321 = 0 := rfl; have hr := hg; repeat' (first | refine aw_seq ?_ | (refine aw_skip ?_; try simp only [thenQ, blockQ, if_true, if_false, Nat.reduceEqDiff, reduceCtorEq]) | (refine aw_exit ?_; try simp only [thenQ, blockQ, if_true, if_false, Nat.reduceEqDiff, reduceCtorEq]) | refine aw_ret ?_ | refine aw_block ?_ | refine aw_condT rfl ?_ | refine aw_condF rfl ?_ | ((first | refine aw_region ?_ | refine ago_if (by omega) ?_ | skip); simp (config := {maxSteps := 10000000}) (disch := first | exact okYes (by kernel_rfl) | omega) only [thenQ, List.map, Int.reduceNeg, List.length, Nat.zero_add, Nat.reduceMul, Nat.reduceAdd, envOf, ARun_none, AOpRun, aexec, FSt.ev, AGo_ok, St.app, putO, eput_c, Nat.reduceBEq, eput_n, cond_false, hups, ARun_nil, dropE_c, inL_n, dropE_n, St.F, ↓eget_h, eget_c, rows_len, inL_c, beq_self_eq_true, cond_true])))
  refine aw_loop (fun k : Nat => ⟨[(0, .list (rows l)), (1, .fn 97 [] [.ptr 0 0, .ptr 16 0]), (7, dI l.length), (8, dI k)], [(0, tabC xs ys vs), (16, [.fn 95 [] []])], 400⟩) (fun k => k ≤ l.length ∧ ∀ j, j < k → p (l[j]?.getD []) = false) (fun k => l.length - k) ⟨0, ⟨by omega, by omega⟩, ?_⟩ ?_
  · refine wk_to [] [(0, 0), (16, 16)] (by kernel_rfl) (by kernel_rfl) (by kernel_rfl) (by kernel_rfl) (by kernel_rfl) ?_ ?_ <;> repeat' (first | exact trivial | exact vr_val _ | exact vr_list _ | exact vr_ptr _ _ _ rfl | apply vr_fn | refine And.intro ⟨_, rfl, .inl ⟨_, rfl, by decide, ?_⟩⟩ ?_ | apply And.intro)
  · rintro k ⟨hk, hv⟩
    by_cases hk2 : k < l.length
    · have g1 := rows_gd l k hk2
      cases hx : p (l[k]?.getD []) with
      | true =>
        have hx2 := hx
        rw [hpa] at hx2
        rw [← hR, ixOf_some hk2 hv hx]
        (have hg : (987654321 : Nat) - 987654321 = 0 := rfl; have hr := hg; repeat' (first | refine aw_seq ?_ | (refine aw_skip ?_; try simp only [thenQ, blockQ, if_true, if_false, Nat.reduceEqDiff, reduceCtorEq]) | (refine aw_exit ?_; try simp only [thenQ, blockQ, if_true, if_false, Nat.reduceEqDiff, reduceCtorEq]) | refine aw_ret ?_ | refine aw_block ?_ | refine aw_condT rfl ?_ | refine aw_condF rfl ?_ | (refine aw_cond rfl (fun hg => ?_) (fun hg => ?_) <;> (try (have hq := hg; simp only [Bool.not_eq_true', Bool.not_eq_false', Bool.and_eq_true, Bool.and_eq_false_iff, Bool.or_eq_true, Bool.or_eq_false_iff, decide_eq_true_eq, decide_eq_false_iff_not, bne_iff_ne, beq_iff_eq, beq_eq_false_iff_ne, bne_eq_false_iff_eq, ne_eq, Int.not_lt, Int.not_le, Decidable.not_not] at hq)) <;> (try (have hr := hg; simp only [decide_eq_true_eq, decide_eq_false_iff_not] at hr)) <;> (try (exfalso; omega))) | ((first | refine aw_region ?_ | refine acallB (ct2_ac xs ys vs _ hyl) (by repeat' (first | exact trivial | exact rfl | refine And.intro ?_ ?_)) (by kernel_rfl) (by kernel_rfl) (by kernel_rfl) ?_ | refine ago_if (by omega) ?_ | skip); simp (config := {maxSteps := 10000000}) (disch := first | exact okYes (by kernel_rfl) | omega) only [thenQ, dI, Int.reduceNeg, List.length, Nat.zero_add, Nat.reduceMul, Nat.reduceAdd, ARun_none, AOpRun, aexec, FSt.ev, St.F, eget_c, Nat.reduceBEq, ↓eget_h, cond_false, isSh, Bool.false_eq_true, ↓reduceIte, Option.map, abin, AGo_ok, St.app, putO, eput_c, eput_n, hups, List.map, ARun_nil, dropE_c, inL_n, dropE_n, hr, decide_true, inL_c, beq_self_eq_true, cond_true, Int.natCast_nonneg, rows_all, and_self, opt1, Int.toNat_natCast, g1, run1, List.getElem?_cons_zero, dB, hx2, hput_c, hput_n, List.append_nil, blockQ])))
        all_goals (refine end_to [] [(0, 0), (16, 16)] (by first | exact .inl rfl | exact .inr rfl) rfl (by kernel_rfl) (by kernel_rfl) (by kernel_rfl) ?_ ?_ <;> repeat' (first | exact trivial | exact vr_val _ | exact vr_list _ | apply vr_fn | refine And.intro ⟨_, rfl, _, rfl, by decide, ?_⟩ ?_ | apply And.intro))
      | false =>
        have hx2 := hx
        rw [hpa] at hx2
        (have hg : (987654321 : Nat) - 987654321 = 0 := rfl; have hr := hg; repeat' (first | refine aw_seq ?_ | (refine aw_skip ?_; try simp only [thenQ, blockQ, if_true, if_false, Nat.reduceEqDiff, reduceCtorEq]) | (refine aw_exit ?_; try simp only [thenQ, blockQ, if_true, if_false, Nat.reduceEqDiff, reduceCtorEq]) | refine aw_ret ?_ | refine aw_block ?_ | refine aw_condT rfl ?_ | refine aw_condF rfl ?_ | (refine aw_cond rfl (fun hg => ?_) (fun hg => ?_) <;> (try (have hq := hg; simp only [Bool.not_eq_true', Bool.not_eq_false', Bool.and_eq_true, Bool.and_eq_false_iff, Bool.or_eq_true, Bool.or_eq_false_iff, decide_eq_true_eq, decide_eq_false_iff_not, bne_iff_ne, beq_iff_eq, beq_eq_false_iff_ne, bne_eq_false_iff_eq, ne_eq, Int.not_lt, Int.not_le, Decidable.not_not] at hq)) <;> (try (have hr := hg; simp only [decide_eq_true_eq, decide_eq_false_iff_not] at hr)) <;> (try (exfalso; omega))) | ((first | refine aw_region ?_ | refine acallB (ct2_ac xs ys vs _ hyl) (by repeat' (first | exact trivial | exact rfl | refine And.intro ?_ ?_)) (by kernel_rfl) (by kernel_rfl) (by kernel_rfl) ?_ | refine ago_if (by omega) ?_ | skip); simp (config := {maxSteps := 10000000}) (disch := first | exact okYes (by kernel_rfl) | omega) only [thenQ, dI, Int.reduceNeg, List.length, Nat.zero_add, Nat.reduceMul, Nat.reduceAdd, ARun_none, AOpRun, aexec, FSt.ev, St.F, eget_c, Nat.reduceBEq, ↓eget_h, cond_false, isSh, Bool.false_eq_true, ↓reduceIte, Option.map, abin, AGo_ok, St.app, putO, eput_c, eput_n, hups, List.map, ARun_nil, dropE_c, inL_n, dropE_n, hr, decide_true, inL_c, beq_self_eq_true, cond_true, Int.natCast_nonneg, rows_all, and_self, opt1, Int.toNat_natCast, g1, run1, List.getElem?_cons_zero, dB, hx2, hput_c, hput_n, List.append_nil, fits])))
        exact ⟨k + 1, ⟨by omega, prev_next hv hx⟩, by omega, by refine wk_to [] [(0, 0), (16, 16)] (by kernel_rfl) (by kernel_rfl) (by kernel_rfl) (by kernel_rfl) (by kernel_rfl) ?_ ?_ <;> repeat' (first | exact trivial | exact vr_val _ | exact vr_list _ | exact vr_ptr _ _ _ rfl | apply vr_fn | refine And.intro ⟨_, rfl, .inl ⟨_, rfl, by decide, ?_⟩⟩ ?_ | apply And.intro)⟩
    · obtain rfl : k = l.length := by omega
      rw [← hR, ixOf_none hv]
      (have hg : (987654321 : Nat) - 987654321 = 0 := rfl; have hr := hg; repeat' (first | refine aw_seq ?_ | (refine aw_skip ?_; try simp only [thenQ, blockQ, if_true, if_false, Nat.reduceEqDiff, reduceCtorEq]) | (refine aw_exit ?_; try simp only [thenQ, blockQ, if_true, if_false, Nat.reduceEqDiff, reduceCtorEq]) | refine aw_ret ?_ | refine aw_block ?_ | refine aw_condT rfl ?_ | refine aw_condF rfl ?_ | (refine aw_cond rfl (fun hg => ?_) (fun hg => ?_) <;> (try (have hq := hg; simp only [Bool.not_eq_true', Bool.not_eq_false', Bool.and_eq_true, Bool.and_eq_false_iff, Bool.or_eq_true, Bool.or_eq_false_iff, decide_eq_true_eq, decide_eq_false_iff_not, bne_iff_ne, beq_iff_eq, beq_eq_false_iff_ne, bne_eq_false_iff_eq, ne_eq, Int.not_lt, Int.not_le, Decidable.not_not] at hq)) <;> (try (have hr := hg; simp only [decide_eq_true_eq, decide_eq_false_iff_not] at hr)) <;> (try (exfalso; omega))) | ((first | refine aw_region ?_ | refine ago_if (by omega) ?_ | skip); simp (config := {maxSteps := 10000000}) (disch := first | exact okYes (by kernel_rfl) | omega) only [thenQ, dI, Int.reduceNeg, List.length, Nat.zero_add, Nat.reduceMul, Nat.reduceAdd, ARun_none, AOpRun, aexec, FSt.ev, St.F, eget_c, Nat.reduceBEq, ↓eget_h, cond_false, isSh, Bool.false_eq_true, ↓reduceIte, Option.map, abin, AGo_ok, St.app, putO, eput_c, eput_n, hups, List.map, ARun_nil, dropE_c, inL_n, dropE_n, hr, decide_false])))
      all_goals (refine end_to [] [(0, 0), (16, 16)] (by first | exact .inl rfl | exact .inr rfl) rfl (by kernel_rfl) (by kernel_rfl) (by kernel_rfl) ?_ ?_ <;> repeat' (first | exact trivial | exact vr_val _ | exact vr_list _ | apply vr_fn | refine And.intro ⟨_, rfl, _, rfl, by decide, ?_⟩ ?_ | apply And.intro))
set_option maxRecDepth 100000 in
set_option maxHeartbeats 1000000 in
theorem rowC_ac (xs ys : List Int) (vs : List (List Int)) (hyl : ys.length ≤ 12) (l : List (List Int)) (hl : l.length ≤ 1000000) : AC Try.prog 99 [.list (rows l), .fn 97 [] [.ptr 0 0, .ptr 16 0]] [(0, tabC xs ys vs), (16, [.fn 95 [] []])] [(0, some (tabC xs ys vs)), (16, some [.fn 95 [] []])] (dB (l.any (rowBad ys.length))) := by
  refine kslices_ContainsFunc_L_L_J_L_Jint_K_L_Jint_J.ac (n0 := 24) (by simp) ⟨.list _, .fn _ _ _ (by simp) (by intro d hd; simp at hd; rcases hd with rfl | rfl <;> exact .ptr _ _ (by omega)), trivial⟩ (hin2 xs ys vs) rfl ?_
  unfold cslices_ContainsFunc_L_L_J_L_Jint_K_L_Jint_J
  rw [← ixOf_ge]
  (have hg : (987654321 : Nat) - 987654321 = 0 := rfl; have hr := hg; repeat' (first | refine aw_seq ?_ | (refine aw_skip ?_; try simp only [thenQ, blockQ, if_true, if_false, Nat.reduceEqDiff, reduceCtorEq]) | (refine aw_exit ?_; try simp only [thenQ, blockQ, if_true, if_false, Nat.reduceEqDiff, reduceCtorEq]) | refine aw_ret ?_ | refine aw_block ?_ | refine aw_condT rfl ?_ | refine aw_condF rfl ?_ | ((first | refine aw_region ?_ | refine acallB (rowI_ac xs ys vs hyl l hl) (by repeat' (first | exact trivial | exact rfl | refine And.intro ?_ ?_)) (by kernel_rfl) (by kernel_rfl) (by kernel_rfl) ?_ | refine ago_if (by omega) ?_ | skip); simp (config := {maxSteps := 10000000}) (disch := first | exact okYes (by kernel_rfl) | omega) only [thenQ, List.map, List.length, Nat.zero_add, Nat.reduceMul, Nat.reduceAdd, envOf, ARun_none, AOpRun, aexec, FSt.ev, AGo_ok, St.app, putO, eput_c, Nat.reduceBEq, eput_n, cond_false, hups, ARun_nil, dropE_c, inL_n, dropE_n, St.F, ↓eget_h, eget_c, dI, hput_c, beq_self_eq_true, hput_n, cond_true, List.append_nil, isSh, Bool.false_eq_true, ↓reduceIte, Option.map, abin, inL_c])))
  all_goals (refine end_to [] [(0, 0), (16, 16)] (by first | exact .inl rfl | exact .inr rfl) rfl (by kernel_rfl) (by kernel_rfl) (by kernel_rfl) ?_ ?_ <;> repeat' (first | exact trivial | exact vr_val _ | exact vr_list _ | apply vr_fn | refine And.intro ⟨_, rfl, _, rfl, by decide, ?_⟩ ?_ | apply And.intro))
set_option maxRecDepth 100000 in
set_option maxHeartbeats 1000000 in
theorem checkTable_ac (xs ys : List Int) (vs : List (List Int)) (hx : ∀ x ∈ xs, -9223372036854775808 ≤ x ∧ x ≤ 9223372036854775807) (hy : ∀ x ∈ ys, -9223372036854775808 ≤ x ∧ x ≤ 9223372036854775807) : AC Try.prog 63 [tabD xs ys vs] [] [] (dI (tabErr xs ys vs)) := by
  refine kspans_CheckTable.ac (n0 := 0) (by simp) ⟨.agg _ (by intro d hd; simp at hd; rcases hd with rfl | rfl | rfl <;> exact .list _), trivial⟩ trivial rfl ?_
  unfold cspans_CheckTable tabD
  have ax := axis_ac xs hx
  have ay := axis_ac ys hy
  cases h1 : axB xs with
  | false =>
    have e : tabErr xs ys vs = 11 := by unfold tabErr tabB; rw [h1]; rfl
    rw [e]
    (have hg : (987654321 : Nat) - 987654321 = 0 := rfl; have hr := hg; repeat' (first | refine aw_seq ?_ | (refine aw_skip ?_; try simp only [thenQ, blockQ, if_true, if_false, Nat.reduceEqDiff, reduceCtorEq]) | (refine aw_exit ?_; try simp only [thenQ, blockQ, if_true, if_false, Nat.reduceEqDiff, reduceCtorEq]) | refine aw_ret ?_ | refine aw_block ?_ | refine aw_condT rfl ?_ | refine aw_condF rfl ?_ | ((first | refine aw_region ?_ | refine acall0 (ax) ?_ | refine acall0 (ay) ?_ | refine ago_if (by omega) ?_ | skip); simp (config := {maxSteps := 10000000}) (disch := first | exact okYes (by kernel_rfl) | omega) only [thenQ, List.map, dI, List.length, Nat.zero_add, Nat.reduceAdd, Nat.reduceMul, envOf, ARun_none, AOpRun, aexec, D.isBot, FSt.ev, St.F, ↓eget_h, Bool.false_eq_true, Option.isSome, hget_n, or_self, ↓reduceIte, D.cells, AGo_ok, St.app, putO, eput_c, Nat.reduceBEq, eput_n, cond_false, hups, hput_n, ARun_nil, dropE_c, inL_n, dropE_n, hget_c, hput_c, eget_c, ↓hget_h, Nat.reduceLeDiff, List.all, D.leaf, Bool.and_true, and_self, splice, List.take, List.nil_append, List.drop, List.append_nil, beq_self_eq_true, cond_true, inL_c, Option.map, run1, List.getElem?_cons_zero, dB, h1, Bool.not_false, ARun_some, AG_tf])))
    all_goals (refine end_to [] [] (by first | exact .inl rfl | exact .inr rfl) rfl (by kernel_rfl) (by kernel_rfl) (by kernel_rfl) ?_ ?_ <;> repeat' (first | exact trivial | exact vr_val _))
  | true =>
  cases h2 : axB ys with
  | false =>
    have e : tabErr xs ys vs = 11 := by unfold tabErr tabB; rw [h1, h2]; rfl
    rw [e]
    (have hg : (987654321 : Nat) - 987654321 = 0 := rfl; have hr := hg; repeat' (first | refine aw_seq ?_ | (refine aw_skip ?_; try simp only [thenQ, blockQ, if_true, if_false, Nat.reduceEqDiff, reduceCtorEq]) | (refine aw_exit ?_; try simp only [thenQ, blockQ, if_true, if_false, Nat.reduceEqDiff, reduceCtorEq]) | refine aw_ret ?_ | refine aw_block ?_ | refine aw_condT rfl ?_ | refine aw_condF rfl ?_ | ((first | refine aw_region ?_ | refine acall0 (ax) ?_ | refine acall0 (ay) ?_ | refine ago_if (by omega) ?_ | skip); simp (config := {maxSteps := 10000000}) (disch := first | exact okYes (by kernel_rfl) | omega) only [thenQ, List.map, dI, List.length, Nat.zero_add, Nat.reduceAdd, Nat.reduceMul, envOf, ARun_none, AOpRun, aexec, D.isBot, FSt.ev, St.F, ↓eget_h, Bool.false_eq_true, Option.isSome, hget_n, or_self, ↓reduceIte, D.cells, AGo_ok, St.app, putO, eput_c, Nat.reduceBEq, eput_n, cond_false, hups, hput_n, ARun_nil, dropE_c, inL_n, dropE_n, hget_c, hput_c, eget_c, ↓hget_h, Nat.reduceLeDiff, List.all, D.leaf, Bool.and_true, and_self, splice, List.take, List.nil_append, List.drop, List.append_nil, beq_self_eq_true, cond_true, inL_c, Option.map, run1, List.getElem?_cons_zero, dB, h1, Bool.not_true, ARun_some, AG_ff, List.getElem?_cons_succ, h2, Bool.not_false, AG_tf])))
    all_goals (refine end_to [] [] (by first | exact .inl rfl | exact .inr rfl) rfl (by kernel_rfl) (by kernel_rfl) (by kernel_rfl) ?_ ?_ <;> repeat' (first | exact trivial | exact vr_val _))
  | true =>
  have x12 : 2 ≤ xs.length ∧ xs.length ≤ 12 := by
    unfold axB at h1
    have := wB_iff.1 (Bool.and_eq_true _ _ |>.mp h1).1
    omega
  have y12 : 2 ≤ ys.length ∧ ys.length ≤ 12 := by
    unfold axB at h2
    have := wB_iff.1 (Bool.and_eq_true _ _ |>.mp h2).1
    omega
  cases h3 : ((vs.length : Int) != (xs.length : Int)) with
  | true =>
    have e : tabErr xs ys vs = 11 := by unfold tabErr tabB; rw [h1, h2, h3]; rfl
    rw [e]
    (have hg : (987654321 : Nat) - 987654321 = 0 := rfl; have hr := hg; repeat' (first | refine aw_seq ?_ | (refine aw_skip ?_; try simp only [thenQ, blockQ, if_true, if_false, Nat.reduceEqDiff, reduceCtorEq]) | (refine aw_exit ?_; try simp only [thenQ, blockQ, if_true, if_false, Nat.reduceEqDiff, reduceCtorEq]) | refine aw_ret ?_ | refine aw_block ?_ | refine aw_condT rfl ?_ | refine aw_condF rfl ?_ | ((first | refine aw_region ?_ | refine acall0 (ax) ?_ | refine acall0 (ay) ?_ | refine ago_if (by omega) ?_ | skip); simp (config := {maxSteps := 10000000}) (disch := first | exact okYes (by kernel_rfl) | omega) only [thenQ, List.map, dI, List.length, Nat.zero_add, Nat.reduceAdd, Nat.reduceMul, envOf, ARun_none, AOpRun, aexec, D.isBot, FSt.ev, St.F, ↓eget_h, Bool.false_eq_true, Option.isSome, hget_n, or_self, ↓reduceIte, D.cells, AGo_ok, St.app, putO, eput_c, Nat.reduceBEq, eput_n, cond_false, hups, hput_n, ARun_nil, dropE_c, inL_n, dropE_n, hget_c, hput_c, eget_c, ↓hget_h, Nat.reduceLeDiff, List.all, D.leaf, Bool.and_true, and_self, splice, List.take, List.nil_append, List.drop, List.append_nil, beq_self_eq_true, cond_true, inL_c, Option.map, run1, List.getElem?_cons_zero, dB, h1, Bool.not_true, ARun_some, AG_ff, List.getElem?_cons_succ, h2, rows_len, ints_len, isSh, abin, h3, AG_tf])))
    all_goals (refine end_to [] [] (by first | exact .inl rfl | exact .inr rfl) rfl (by kernel_rfl) (by kernel_rfl) (by kernel_rfl) ?_ ?_ <;> repeat' (first | exact trivial | exact vr_val _))
  | false =>
  have hl : vs.length = xs.length := by simp at h3; omega
  have hrow := rowC_ac xs ys vs y12.2 vs (by omega)
  unfold tabC at hrow
  cases h4 : vs.any (rowBad ys.length) with
  | true =>
    have e : tabErr xs ys vs = 11 := by unfold tabErr tabB; rw [h1, h2, h3, h4]; rfl
    rw [e]
    (have hg : (987654321 : Nat) - 987654321 = 0 := rfl; have hr := hg; repeat' (first | refine aw_seq ?_ | (refine aw_skip ?_; try simp only [thenQ, blockQ, if_true, if_false, Nat.reduceEqDiff, reduceCtorEq]) | (refine aw_exit ?_; try simp only [thenQ, blockQ, if_true, if_false, Nat.reduceEqDiff, reduceCtorEq]) | refine aw_ret ?_ | refine aw_block ?_ | refine aw_condT rfl ?_ | refine aw_condF rfl ?_ | ((first | refine aw_region ?_ | refine acall0 (ax) ?_ | refine acall0 (ay) ?_ | refine acallB (hrow) (by repeat' (first | exact trivial | exact rfl | refine And.intro ?_ ?_)) (by kernel_rfl) (by kernel_rfl) (by kernel_rfl) ?_ | refine ago_if (by omega) ?_ | skip); simp (config := {maxSteps := 10000000}) (disch := first | exact okYes (by kernel_rfl) | omega) only [thenQ, List.map, dI, List.length, Nat.zero_add, Nat.reduceAdd, Nat.reduceMul, envOf, ARun_none, AOpRun, aexec, D.isBot, FSt.ev, St.F, ↓eget_h, Bool.false_eq_true, Option.isSome, hget_n, or_self, ↓reduceIte, D.cells, AGo_ok, St.app, putO, eput_c, Nat.reduceBEq, eput_n, cond_false, hups, hput_n, ARun_nil, dropE_c, inL_n, dropE_n, hget_c, hput_c, eget_c, ↓hget_h, Nat.reduceLeDiff, List.all, D.leaf, Bool.and_true, and_self, splice, List.take, List.nil_append, List.drop, List.append_nil, beq_self_eq_true, cond_true, inL_c, Option.map, run1, List.getElem?_cons_zero, dB, h1, Bool.not_true, ARun_some, AG_ff, List.getElem?_cons_succ, h2, rows_len, ints_len, isSh, abin, h3, h4])))
    all_goals (refine end_to [] [] (by first | exact .inl rfl | exact .inr rfl) rfl (by kernel_rfl) (by kernel_rfl) (by kernel_rfl) ?_ ?_ <;> repeat' (first | exact trivial | exact vr_val _))
  | false =>
    have e : tabErr xs ys vs = 0 := by unfold tabErr tabB; rw [h1, h2, h3, h4]; rfl
    rw [e]
    (have hg : (987654321 : Nat) - 987654321 = 0 := rfl; have hr := hg; repeat' (first | refine aw_seq ?_ | (refine aw_skip ?_; try simp only [thenQ, blockQ, if_true, if_false, Nat.reduceEqDiff, reduceCtorEq]) | (refine aw_exit ?_; try simp only [thenQ, blockQ, if_true, if_false, Nat.reduceEqDiff, reduceCtorEq]) | refine aw_ret ?_ | refine aw_block ?_ | refine aw_condT rfl ?_ | refine aw_condF rfl ?_ | ((first | refine aw_region ?_ | refine acall0 (ax) ?_ | refine acall0 (ay) ?_ | refine acallB (hrow) (by repeat' (first | exact trivial | exact rfl | refine And.intro ?_ ?_)) (by kernel_rfl) (by kernel_rfl) (by kernel_rfl) ?_ | refine ago_if (by omega) ?_ | skip); simp (config := {maxSteps := 10000000}) (disch := first | exact okYes (by kernel_rfl) | omega) only [thenQ, List.map, dI, List.length, Nat.zero_add, Nat.reduceAdd, Nat.reduceMul, envOf, ARun_none, AOpRun, aexec, D.isBot, FSt.ev, St.F, ↓eget_h, Bool.false_eq_true, Option.isSome, hget_n, or_self, ↓reduceIte, D.cells, AGo_ok, St.app, putO, eput_c, Nat.reduceBEq, eput_n, cond_false, hups, hput_n, ARun_nil, dropE_c, inL_n, dropE_n, hget_c, hput_c, eget_c, ↓hget_h, Nat.reduceLeDiff, List.all, D.leaf, Bool.and_true, and_self, splice, List.take, List.nil_append, List.drop, List.append_nil, beq_self_eq_true, cond_true, inL_c, Option.map, run1, List.getElem?_cons_zero, dB, h1, Bool.not_true, ARun_some, AG_ff, List.getElem?_cons_succ, h2, rows_len, ints_len, isSh, abin, h3, h4])))
    all_goals (refine end_to [] [] (by first | exact .inl rfl | exact .inr rfl) rfl (by kernel_rfl) (by kernel_rfl) (by kernel_rfl) ?_ ?_ <;> repeat' (first | exact trivial | exact vr_val _))
end Go.Proofs.Ythohcimmoobaoaa
/- At each point of a box the value of a table lies between the ends of its bound. In numbers; no conditions. -/
namespace Go.Proofs.Ythohcimmoobaoaa

def flo (xs ys : List Int) (vs : List (List Int)) (x y : Int) : Int := atN xs ys vs x y / atD xs ys x y
def cei (xs ys : List Int) (vs : List (List Int)) (x y : Int) : Int := -(-(atN xs ys vs x y) / atD xs ys x y)
theorem Axis.cell_or {l : List Int} (h : Axis l) {x : Int} {i : Nat} (hi : i + 2 ≤ l.length) (h1 : l[i]?.getD 0 ≤ x) (h2 : x ≤ l[i+1]?.getD 0) : cellI l x = i ∨ (i = cellI l x + 1 ∧ x = l[i]?.getD 0) := by
  by_cases hc : 0 < i → l[i]?.getD 0 < x
  · exact .inl (h.cellI_eq ⟨hi, hc, fun _ => h2⟩)
  · have hpos : 0 < i := by
      rcases Nat.eq_zero_or_pos i with h0 | h0
      · exact absurd (fun hh => by omega) hc
      · exact h0
    have hx : x = l[i]?.getD 0 := by
      by_cases hlt : l[i]?.getD 0 < x
      · exact absurd (fun _ => hlt) hc
      · omega
    obtain ⟨j, rfl⟩ := Nat.exists_eq_succ_of_ne_zero (by omega : i ≠ 0)
    refine .inr ⟨?_, hx⟩
    have := h.cellI_eq (x := x) (i := j) ⟨by omega, fun _ => by have := h.gap j (by omega); simp only [Nat.succ_eq_add_one] at hx; omega, fun _ => by simp only [Nat.succ_eq_add_one] at hx; omega⟩
    rw [this]
def nX (xs ys : List Int) (vs : List (List Int)) (i k : Nat) (x y : Int) : Int := numF (xs[i+1]?.getD 0 - x) (x - xs[i]?.getD 0) (ys[k+1]?.getD 0 - y) (y - ys[k]?.getD 0)
    ((vs[i]?.getD [])[k]?.getD 0) ((vs[i+1]?.getD [])[k]?.getD 0) ((vs[i]?.getD [])[k+1]?.getD 0) ((vs[i+1]?.getD [])[k+1]?.getD 0)
def dX (xs ys : List Int) (i k : Nat) : Int := (xs[i+1]?.getD 0 - xs[i]?.getD 0) * (ys[k+1]?.getD 0 - ys[k]?.getD 0)
theorem dX_pos {xs ys : List Int} (hx : Axis xs) (hy : Axis ys) {i k : Nat} (hi : i + 2 ≤ xs.length) (hk : k + 2 ≤ ys.length) : 1 ≤ dX xs ys i k := by
  have h1 := hx.gap i (by omega)
  have h2 := hy.gap k (by omega)
  unfold dX
  have := Int.mul_le_mul h1.1 h2.1 (by omega) (by omega)
  omega
/-- the value by whatever part of the axes that the point lies on -/
theorem val_any {xs ys : List Int} {vs : List (List Int)} (hT : Tbl xs ys vs) {x y : Int} {i k : Nat} (hi : i + 2 ≤ xs.length) (hk : k + 2 ≤ ys.length) (x1 : xs[i]?.getD 0 ≤ x) (x2 : x ≤ xs[i+1]?.getD 0) (y1 : ys[k]?.getD 0 ≤ y) (y2 : y ≤ ys[k+1]?.getD 0) :
    atN xs ys vs x y * dX xs ys i k = nX xs ys vs i k x y * atD xs ys x y := by
  have hx := hT.ax.cell_or hi x1 x2
  have hy := hT.ay.cell_or hk y1 y2
  unfold atN atD nX dX numF denF
  simp only
  clear x1 x2 y1 y2
  generalize cellI xs x = i' at *
  generalize cellI ys y = k' at *
  rcases hx with rfl | ⟨rfl, hx2⟩ <;> rcases hy with rfl | ⟨rfl, hy2⟩
  · grind
  · generalize xs[i']?.getD 0 = x0 at *
    generalize xs[i'+1]?.getD 0 = x1 at *
    generalize ys[k']?.getD 0 = y0 at *
    generalize ys[k'+1]?.getD 0 = y1 at *
    generalize ys[k'+1+1]?.getD 0 = y2 at *
    subst hy2
    grind
  · generalize xs[i']?.getD 0 = x0 at *
    generalize xs[i'+1]?.getD 0 = x1 at *
    generalize xs[i'+1+1]?.getD 0 = x2 at *
    generalize ys[k']?.getD 0 = y0 at *
    generalize ys[k'+1]?.getD 0 = y1 at *
    subst hx2
    grind
  · generalize xs[i']?.getD 0 = x0 at *
    generalize xs[i'+1]?.getD 0 = x1 at *
    generalize xs[i'+1+1]?.getD 0 = x2 at *
    generalize ys[k']?.getD 0 = y0 at *
    generalize ys[k'+1]?.getD 0 = y1 at *
    generalize ys[k'+1+1]?.getD 0 = y2 at *
    subst hx2 hy2
    grind
/-- neighbours among the stops of a span -/
theorem stops_near {l : List Int} (h : Axis l) {lo hi x : Int} (h1 : l[0]?.getD 0 ≤ lo) (h2 : hi ≤ l[l.length-1]?.getD 0) (h3 : lo ≤ x) (h4 : x ≤ hi) :
    ∃ (i : Nat) (x1 x2 : Int), i + 2 ≤ l.length ∧ x1 ∈ stopsL l lo hi ∧ x2 ∈ stopsL l lo hi ∧ l[i]?.getD 0 ≤ x1 ∧ x1 ≤ x ∧ x ≤ x2 ∧ x2 ≤ l[i+1]?.getD 0 := by
  obtain ⟨c1, c2, c3⟩ := h.cellI_at x
  generalize cellI l x = i at *
  have a1 : l[i]?.getD 0 ≤ x := by
    rcases Nat.eq_zero_or_pos i with h0 | h0
    · subst h0; omega
    · have := c2 h0; omega
  have a2 : x ≤ l[i+1]?.getD 0 := by
    by_cases hlt : i + 2 < l.length
    · exact c3 hlt
    · have : l.length - 1 = i + 1 := by omega
      rw [this] at h2; omega
  have m1 : l[i]?.getD 0 ∈ l := by simp [show i < l.length by omega]
  have m2 : l[i+1]?.getD 0 ∈ l := by simp [show i + 1 < l.length by omega]
  have hmem : ∀ z, z = lo ∨ (z ∈ l ∧ lo < z ∧ z < hi) ∨ (lo < hi ∧ z = hi) → z ∈ stopsL l lo hi := by
    intro z hz
    unfold stopsL midL
    simp only [List.cons_append, List.mem_cons, List.mem_append, List.mem_filter, Bool.and_eq_true, decide_eq_true_eq]
    rcases hz with hz | ⟨hz1, hz2, hz3⟩ | ⟨hz1, hz2⟩
    · exact .inl hz
    · exact .inr (.inl ⟨hz1, hz2, hz3⟩)
    · exact .inr (.inr (by rw [if_pos hz1]; simp [hz2]))
  refine ⟨i, max lo (l[i]?.getD 0), min hi (l[i+1]?.getD 0), c1, ?_, ?_, by omega, by omega, by omega, by omega⟩
  · by_cases q1 : l[i]?.getD 0 ≤ lo
    · exact hmem _ (.inl (by omega))
    · by_cases q2 : l[i]?.getD 0 < hi
      · have e : max lo (l[i]?.getD 0) = l[i]?.getD 0 := by omega
        rw [e]; exact hmem _ (.inr (.inl ⟨m1, by omega, q2⟩))
      · exact hmem _ (.inr (.inr ⟨by omega, by omega⟩))
  · by_cases q1 : hi ≤ l[i+1]?.getD 0
    · by_cases q2 : lo < hi
      · exact hmem _ (.inr (.inr ⟨q2, by omega⟩))
      · exact hmem _ (.inl (by omega))
    · by_cases q2 : lo < l[i+1]?.getD 0
      · have e : min hi (l[i+1]?.getD 0) = l[i+1]?.getD 0 := by omega
        rw [e]; exact hmem _ (.inr (.inl ⟨m2, q2, by omega⟩))
      · exact hmem _ (.inl (by omega))
/-- linear between two points: between the two values -/
theorem lin {P Q b a x1 x x2 : Int} (h1 : x1 ≤ x) (h2 : x ≤ x2) :
    ((b - x1) * P + (x1 - a) * Q ≤ (b - x) * P + (x - a) * Q ∧ (b - x) * P + (x - a) * Q ≤ (b - x2) * P + (x2 - a) * Q) ∨
    ((b - x2) * P + (x2 - a) * Q ≤ (b - x) * P + (x - a) * Q ∧ (b - x) * P + (x - a) * Q ≤ (b - x1) * P + (x1 - a) * Q) := by
  have e1 : ((b - x) * P + (x - a) * Q) - ((b - x1) * P + (x1 - a) * Q) = (x - x1) * (Q - P) := by grind
  have e2 : ((b - x2) * P + (x2 - a) * Q) - ((b - x) * P + (x - a) * Q) = (x2 - x) * (Q - P) := by grind
  by_cases hq : 0 ≤ Q - P
  · have p1 := Int.mul_nonneg (by omega : 0 ≤ x - x1) hq
    have p2 := Int.mul_nonneg (by omega : 0 ≤ x2 - x) hq
    exact .inl ⟨by omega, by omega⟩
  · have p1 := Int.mul_nonneg (by omega : 0 ≤ x - x1) (by omega : 0 ≤ -(Q - P))
    have p2 := Int.mul_nonneg (by omega : 0 ≤ x2 - x) (by omega : 0 ≤ -(Q - P))
    rw [Int.mul_neg] at p1 p2
    exact .inr ⟨by omega, by omega⟩
theorem fc_mono {n m D : Int} (hD : 1 ≤ D) (h : n ≤ m) : n / D ≤ m / D ∧ -(-n / D) ≤ -(-m / D) := by
  have h1 := Int.ediv_le_ediv (by omega : 0 < D) h
  have h2 := Int.ediv_le_ediv (by omega : 0 < D) (by omega : -m ≤ -n)
  exact ⟨h1, by omega⟩
theorem fc_eq {xs ys : List Int} {vs : List (List Int)} (hT : Tbl xs ys vs) {x y : Int} {i k : Nat} (hx : OnAx xs x) (hy : OnAx ys y) (hi : i + 2 ≤ xs.length) (hk : k + 2 ≤ ys.length) (x1 : xs[i]?.getD 0 ≤ x) (x2 : x ≤ xs[i+1]?.getD 0) (y1 : ys[k]?.getD 0 ≤ y) (y2 : y ≤ ys[k+1]?.getD 0) :
    flo xs ys vs x y = nX xs ys vs i k x y / dX xs ys i k ∧ cei xs ys vs x y = -(-(nX xs ys vs i k x y) / dX xs ys i k) := by
  have hv := val_any hT hi hk x1 x2 y1 y2
  have hb := at_bd hT hx hy
  have hd := dX_pos hT.ax hT.ay hi hk
  exact ⟨floor_cross hb.1 hd hv, ceil_cross hb.1 hd hv⟩
theorem onAx_in {l : List Int} (h : Axis l) {i : Nat} (hi : i + 2 ≤ l.length) {x : Int} (h1 : l[i]?.getD 0 ≤ x) (h2 : x ≤ l[i+1]?.getD 0) : OnAx l x :=
  ⟨by have := h.mono 0 i (by omega) (by omega); omega, by have := h.mono (i + 1) (l.length - 1) (by omega) (by omega); omega⟩
/-- a value lies between those at four stops around it -/
theorem inside {xs ys : List Int} {vs : List (List Int)} (hT : Tbl xs ys vs) {X Y : Int × Int} {x y L H : Int} (a1 : xs[0]?.getD 0 ≤ X.1) (a2 : X.2 ≤ xs[xs.length-1]?.getD 0) (a3 : X.1 ≤ x) (a4 : x ≤ X.2) (b1 : ys[0]?.getD 0 ≤ Y.1) (b2 : Y.2 ≤ ys[ys.length-1]?.getD 0) (b3 : Y.1 ≤ y) (b4 : y ≤ Y.2)
    (hall : ∀ u ∈ stopsL xs X.1 X.2, ∀ v ∈ stopsL ys Y.1 Y.2, L ≤ flo xs ys vs u v ∧ cei xs ys vs u v ≤ H) : L ≤ flo xs ys vs x y ∧ cei xs ys vs x y ≤ H := by
  obtain ⟨i, x1, x2, hi, hx1, hx2, c1, c2, c3, c4⟩ := stops_near hT.ax a1 a2 a3 a4
  obtain ⟨k, y1, y2, hk, hy1, hy2, d1, d2, d3, d4⟩ := stops_near hT.ay b1 b2 b3 b4
  have hD := dX_pos hT.ax hT.ay hi hk
  have val : ∀ u v, xs[i]?.getD 0 ≤ u → u ≤ xs[i+1]?.getD 0 → ys[k]?.getD 0 ≤ v → v ≤ ys[k+1]?.getD 0 → flo xs ys vs u v = nX xs ys vs i k u v / dX xs ys i k ∧ cei xs ys vs u v = -(-(nX xs ys vs i k u v) / dX xs ys i k) :=
    fun u v p1 p2 p3 p4 => fc_eq hT (onAx_in hT.ax hi p1 p2) (onAx_in hT.ay hk p3 p4) hi hk p1 p2 p3 p4
  have hx : ∀ v, (nX xs ys vs i k x1 v ≤ nX xs ys vs i k x v ∧ nX xs ys vs i k x v ≤ nX xs ys vs i k x2 v) ∨ (nX xs ys vs i k x2 v ≤ nX xs ys vs i k x v ∧ nX xs ys vs i k x v ≤ nX xs ys vs i k x1 v) := fun v => by
    have e : ∀ z, nX xs ys vs i k z v = (xs[i+1]?.getD 0 - z) * ((ys[k+1]?.getD 0 - v) * ((vs[i]?.getD [])[k]?.getD 0) + (v - ys[k]?.getD 0) * ((vs[i]?.getD [])[k+1]?.getD 0)) + (z - xs[i]?.getD 0) * ((ys[k+1]?.getD 0 - v) * ((vs[i+1]?.getD [])[k]?.getD 0) + (v - ys[k]?.getD 0) * ((vs[i+1]?.getD [])[k+1]?.getD 0)) := fun z => by
      unfold nX numF; grind
    rw [e, e, e]
    exact lin c2 c3
  have hy : ∀ u, (nX xs ys vs i k u y1 ≤ nX xs ys vs i k u y ∧ nX xs ys vs i k u y ≤ nX xs ys vs i k u y2) ∨ (nX xs ys vs i k u y2 ≤ nX xs ys vs i k u y ∧ nX xs ys vs i k u y ≤ nX xs ys vs i k u y1) := fun u => by
    have e : ∀ z, nX xs ys vs i k u z = (ys[k+1]?.getD 0 - z) * ((xs[i+1]?.getD 0 - u) * ((vs[i]?.getD [])[k]?.getD 0) + (u - xs[i]?.getD 0) * ((vs[i+1]?.getD [])[k]?.getD 0)) + (z - ys[k]?.getD 0) * ((xs[i+1]?.getD 0 - u) * ((vs[i]?.getD [])[k+1]?.getD 0) + (u - xs[i]?.getD 0) * ((vs[i+1]?.getD [])[k+1]?.getD 0)) := fun z => by
      unfold nX numF; grind
    rw [e, e, e]
    exact lin d2 d3
  have at4 : ∀ u v, u ∈ stopsL xs X.1 X.2 → v ∈ stopsL ys Y.1 Y.2 → xs[i]?.getD 0 ≤ u → u ≤ xs[i+1]?.getD 0 → ys[k]?.getD 0 ≤ v → v ≤ ys[k+1]?.getD 0 → L ≤ nX xs ys vs i k u v / dX xs ys i k ∧ -(-(nX xs ys vs i k u v) / dX xs ys i k) ≤ H := fun u v hu hv p1 p2 p3 p4 => by
    have := hall u hu v hv
    rwa [(val u v p1 p2 p3 p4).1, (val u v p1 p2 p3 p4).2] at this
  have row : ∀ u, u ∈ stopsL xs X.1 X.2 → xs[i]?.getD 0 ≤ u → u ≤ xs[i+1]?.getD 0 → L ≤ nX xs ys vs i k u y / dX xs ys i k ∧ -(-(nX xs ys vs i k u y) / dX xs ys i k) ≤ H := fun u hu p1 p2 => by
    have q1 := at4 u y1 hu hy1 p1 p2 d1 (by omega)
    have q2 := at4 u y2 hu hy2 p1 p2 (by omega) d4
    rcases hy u with ⟨r1, r2⟩ | ⟨r1, r2⟩
    · have s1 := fc_mono hD r1; have s2 := fc_mono hD r2; omega
    · have s1 := fc_mono hD r1; have s2 := fc_mono hD r2; omega
  rw [(val x y (by omega) (by omega) (by omega) (by omega)).1, (val x y (by omega) (by omega) (by omega) (by omega)).2]
  have q1 := row x1 hx1 c1 (by omega)
  have q2 := row x2 hx2 (by omega) c4
  rcases hx y with ⟨r1, r2⟩ | ⟨r1, r2⟩
  · have s1 := fc_mono hD r1; have s2 := fc_mono hD r2; omega
  · have s1 := fc_mono hD r1; have s2 := fc_mono hD r2; omega
end Go.Proofs.Ythohcimmoobaoaa
/- The ends of a bound: no value at a point of the box is beyond them, and each is one. In numbers; no conditions. -/
namespace Go.Proofs.Ythohcimmoobaoaa

theorem stepE_low (l p : Pt) : (if cmpV p.n p.d l.n l.d < 0 then p else l).n / (if cmpV p.n p.d l.n l.d < 0 then p else l).d ≤ l.n / l.d ∧ (if cmpV p.n p.d l.n l.d < 0 then p else l).n / (if cmpV p.n p.d l.n l.d < 0 then p else l).d ≤ p.n / p.d := by
  rw [← step_low l p, mn_eq]; omega
theorem stepE_top (m p : Pt) : -(-m.n / m.d) ≤ -(-(if 0 < cmpV p.n p.d m.n m.d then p else m).n / (if 0 < cmpV p.n p.d m.n m.d then p else m).d) ∧ -(-p.n / p.d) ≤ -(-(if 0 < cmpV p.n p.d m.n m.d then p else m).n / (if 0 < cmpV p.n p.d m.n m.d then p else m).d) := by
  rw [← step_top m p, mx_eq]; omega
theorem fold_ext : ∀ (ps : List Pt) (l0 m0 l m : Pt), ps.foldl stepE (some (l0, m0)) = some (l, m) →
    (l = l0 ∨ l ∈ ps) ∧ (m = m0 ∨ m ∈ ps) ∧ l.n / l.d ≤ l0.n / l0.d ∧ -(-m0.n / m0.d) ≤ -(-m.n / m.d) ∧ ∀ p ∈ ps, l.n / l.d ≤ p.n / p.d ∧ -(-p.n / p.d) ≤ -(-m.n / m.d)
  | [], l0, m0, l, m, h => by
    simp only [List.foldl_nil, Option.some.injEq, Prod.mk.injEq] at h
    obtain ⟨rfl, rfl⟩ := h
    exact ⟨.inl rfl, .inl rfl, by omega, by omega, by simp⟩
  | q :: ps, l0, m0, l, m, h => by
    rw [List.foldl_cons, stepE_some] at h
    obtain ⟨h1, h2, h3, h4, h5⟩ := fold_ext ps _ _ l m h
    have a := stepE_low l0 q
    have b := stepE_top m0 q
    refine ⟨?_, ?_, by omega, by omega, fun p hp => ?_⟩
    · rcases h1 with h1 | h1
      · by_cases c : cmpV q.n q.d l0.n l0.d < 0
        · rw [if_pos c] at h1; exact .inr (h1 ▸ List.mem_cons_self ..)
        · rw [if_neg c] at h1; exact .inl h1
      · exact .inr (List.mem_cons_of_mem _ h1)
    · rcases h2 with h2 | h2
      · by_cases c : 0 < cmpV q.n q.d m0.n m0.d
        · rw [if_pos c] at h2; exact .inr (h2 ▸ List.mem_cons_self ..)
        · rw [if_neg c] at h2; exact .inl h2
      · exact .inr (List.mem_cons_of_mem _ h2)
    · rcases List.mem_cons.1 hp with rfl | hp
      · exact ⟨by omega, by omega⟩
      · exact h5 p hp
theorem extr_is {ps : List Pt} {l m : Pt} (h : extrE ps = some (l, m)) : l ∈ ps ∧ m ∈ ps ∧ ∀ p ∈ ps, l.n / l.d ≤ p.n / p.d ∧ -(-p.n / p.d) ≤ -(-m.n / m.d) := by
  cases ps with
  | nil => simp [extrE] at h
  | cons q ps =>
    have h' : ps.foldl stepE (some (q, q)) = some (l, m) := h
    obtain ⟨h1, h2, h3, h4, h5⟩ := fold_ext ps q q l m h'
    refine ⟨?_, ?_, fun p hp => ?_⟩
    · rcases h1 with rfl | h1
      · exact List.mem_cons_self ..
      · exact List.mem_cons_of_mem _ h1
    · rcases h2 with rfl | h2
      · exact List.mem_cons_self ..
      · exact List.mem_cons_of_mem _ h2
    · rcases List.mem_cons.1 hp with rfl | hp
      · exact ⟨h3, h4⟩
      · exact h5 p hp
theorem pts_mem {xs ys : List Int} {vs : List (List Int)} {x y : Int × Int} {p : Pt} : p ∈ pts xs ys vs x y ↔ ∃ u ∈ stopsL xs x.1 x.2, ∃ v ∈ stopsL ys y.1 y.2, p = ptAt xs ys vs u v := by
  unfold pts allPts rowPts
  simp only [List.mem_flatMap, List.mem_map]
  constructor
  · rintro ⟨u, hu, v, hv, rfl⟩; exact ⟨u, hu, v, hv, rfl⟩
  · rintro ⟨u, hu, v, hv, rfl⟩; exact ⟨u, hu, v, hv, rfl⟩
theorem stops_in {l : List Int} {lo hi x : Int} (h : lo ≤ hi) (hx : x ∈ stopsL l lo hi) : lo ≤ x ∧ x ≤ hi := by
  unfold stopsL midL at hx
  simp only [List.cons_append, List.mem_cons, List.mem_append, List.mem_filter, Bool.and_eq_true, decide_eq_true_eq] at hx
  rcases hx with rfl | ⟨_, h3, h4⟩ | h5
  · exact ⟨by omega, h⟩
  · omega
  · split at h5
    · simp at h5; omega
    · simp at h5
/-- what a bound is -/
structure BndIs (xs ys : List Int) (vs : List (List Int)) (x y b : Int × Int) : Prop where
  all : ∀ u v, x.1 ≤ u → u ≤ x.2 → y.1 ≤ v → v ≤ y.2 → b.1 ≤ flo xs ys vs u v ∧ cei xs ys vs u v ≤ b.2
  low : ∃ u v, x.1 ≤ u ∧ u ≤ x.2 ∧ y.1 ≤ v ∧ v ≤ y.2 ∧ flo xs ys vs u v = b.1
  top : cei xs ys vs (wst xs ys vs x y).1 (wst xs ys vs x y).2 = b.2 ∧ x.1 ≤ (wst xs ys vs x y).1 ∧ (wst xs ys vs x y).1 ≤ x.2 ∧ y.1 ≤ (wst xs ys vs x y).2 ∧ (wst xs ys vs x y).2 ≤ y.2
theorem bnd_is {xs ys : List Int} {vs : List (List Int)} {x y : Int × Int} (hO : OnT xs ys vs x y) : BndIs xs ys vs x y (bnd xs ys vs x y) := by
  obtain ⟨l, m, hlm⟩ := extrE_ne (pts xs ys vs x y) (allPts_ne xs ys vs x.1 x.2 y.1 y.2)
  obtain ⟨h1, h2, h3⟩ := extr_is hlm
  rw [bnd_eq hlm]
  have val : ∀ u v, u ∈ stopsL xs x.1 x.2 → v ∈ stopsL ys y.1 y.2 → flo xs ys vs u v = (ptAt xs ys vs u v).n / (ptAt xs ys vs u v).d ∧ cei xs ys vs u v = -(-(ptAt xs ys vs u v).n / (ptAt xs ys vs u v).d) ∧ (ptAt xs ys vs u v).x = u ∧ (ptAt xs ys vs u v).y = v := fun u v hu hv => by
    obtain ⟨e1, e2, e3, e4⟩ := ptAt_is (vs := vs) hO.t (OnAx_stops hO.x1 hO.x2 hO.x3 hu) (OnAx_stops hO.y1 hO.y2 hO.y3 hv)
    rw [e1, e2]
    exact ⟨rfl, rfl, e3, e4⟩
  refine ⟨fun u v u1 u2 v1 v2 => ?_, ?_, ?_⟩
  · refine inside hO.t hO.x1 hO.x2 u1 u2 hO.y1 hO.y2 v1 v2 fun a ha b hb => ?_
    obtain ⟨e1, e2, _, _⟩ := val a b ha hb
    rw [e1, e2]
    exact h3 _ (pts_mem.2 ⟨a, ha, b, hb, rfl⟩)
  · obtain ⟨a, ha, b, hb, rfl⟩ := pts_mem.1 h1
    obtain ⟨e1, e2, _, _⟩ := val a b ha hb
    exact ⟨a, b, (stops_in hO.x3 ha).1, (stops_in hO.x3 ha).2, (stops_in hO.y3 hb).1, (stops_in hO.y3 hb).2, e1⟩
  · rw [wst_eq hlm]
    obtain ⟨a, ha, b, hb, rfl⟩ := pts_mem.1 h2
    obtain ⟨e1, e2, e3, e4⟩ := val a b ha hb
    simp only [e3, e4]
    exact ⟨e2, (stops_in hO.x3 ha).1, (stops_in hO.x3 ha).2, (stops_in hO.y3 hb).1, (stops_in hO.y3 hb).2⟩
/-- a part of the box has no wider bound -/
theorem bnd_part {xs ys : List Int} {vs : List (List Int)} {x y x' y' : Int × Int} (hO : OnT xs ys vs x y) (hx1 : x.1 ≤ x'.1) (hx2 : x'.2 ≤ x.2) (hx3 : x'.1 ≤ x'.2) (hy1 : y.1 ≤ y'.1) (hy2 : y'.2 ≤ y.2) (hy3 : y'.1 ≤ y'.2) :
    (bnd xs ys vs x y).1 ≤ (bnd xs ys vs x' y').1 ∧ (bnd xs ys vs x' y').2 ≤ (bnd xs ys vs x y).2 := by
  have hO' : OnT xs ys vs x' y' := ⟨hO.t, by have := hO.x1; omega, by have := hO.x2; omega, hx3, by have := hO.y1; omega, by have := hO.y2; omega, hy3⟩
  have b := bnd_is hO
  have b' := bnd_is hO'
  obtain ⟨u, v, u1, u2, v1, v2, e⟩ := b'.low
  obtain ⟨e2, w1, w2, w3, w4⟩ := b'.top
  have p := (b.all u v (by omega) (by omega) (by omega) (by omega)).1
  have q := (b.all _ _ (by omega : x.1 ≤ (wst xs ys vs x' y').1) (by omega) (by omega : y.1 ≤ (wst xs ys vs x' y').2) (by omega)).2
  rw [e] at p
  rw [e2] at q
  exact ⟨p, q⟩
end Go.Proofs.Ythohcimmoobaoaa
