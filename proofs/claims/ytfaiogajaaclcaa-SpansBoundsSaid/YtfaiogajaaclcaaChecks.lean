/- The law SpansChecks: it returns true; old memory stays. -/
import Derived.Test.YtfaiogajaaclcaaBox
import Derived.Test.YtfaiogajaaclcaaSp2
namespace Go.Proofs.Ytfaiogajaaclcaa
open Go.RowKit

theorem farB_not {xs ys : List Int} {vs : List (List Int)} (h : farB xs ys vs = false) : (xs.length ≤ 15 ∧ ys.length ≤ 15 ∧ vs.length ≤ 15) ∧ ∀ r ∈ vs, r.length ≤ 15 := by
  unfold farB rowFar at h
  simp only [Bool.or_eq_false_iff, decide_eq_false_iff_not, List.any_eq_false, decide_eq_true_eq] at h
  obtain ⟨⟨⟨h1, h2⟩, h3⟩, h4⟩ := h
  exact ⟨⟨by omega, by omega, by omega⟩, fun r hr => by have := h4 r hr; omega⟩
theorem tsz_of {xs ys : List Int} {vs : List (List Int)} (h : farB xs ys vs = false) : TSz xs ys vs := by
  obtain ⟨⟨h1, h2, h3⟩, h4⟩ := farB_not h
  exact ⟨by omega, by omega, by omega, fun r hr => by have := h4 r hr; omega⟩
set_option maxRecDepth 100000 in
set_option maxHeartbeats 4000000 in
theorem checks_any (A : Option Addr) (l : List (Int × Int)) (c : Nat) (xs ys : List Int) (vs : List (List Int)) (X Y V : Option Addr) (cx cy cv : Nat) (w : World) (hlm : l.length ≤ maxLen) (hA : Sps w A l) (hn : A = none → c = 0)
   (hS : TSm xs ys vs) (hR : TabR w X Y V cx cy cv xs ys vs) (hN : TabN w X Y V cx cy cv xs ys vs) :
   Calls Try.prog 4 #[.slice A l.length c, .agg #[.slice X xs.length cx, .slice Y ys.length cy, .slice V vs.length cv]] w fun e w' => e = .returned (.bool true) ∧ Below w.heap.size w w' := by
  obtain ⟨W0, hW0⟩ : ∃ W0, (w.alloc (.cells #[.slice X xs.length cx, .slice Y ys.length cy, .slice V vs.length cv] 25)) = W0 := ⟨_, rfl⟩
  have HB : Hid (Below w.heap.size w W0) := by unfold Hid; rw [← hW0]; exact (Below.refl _ _).alloc (Nat.le_refl _) _
  have ha : W0.heap[w.heap.size]? = some (.cells #[.slice X xs.length cx, .slice Y ys.length cy, .slice V vs.length cv] 25) := by rw [← hW0]; exact blk_new _ _
  have HK := Lib.hid ha
  have HAA := Lib.hid (hA.below HB.out)
  have HR := Lib.hid (hR.below HB.out)
  have HN := Lib.hid (hN.below HB.out)
  have HNN := Lib.hid hn
  have HS := Lib.hid hS
  have HW0 := Lib.hid hW0
  have hlm' := hlm
  unfold maxLen at hlm'
  obtain ⟨⟨c0, c1, c2⟩, _⟩ := cells3 ha
  clear hW0 ha hA hn hS hR hN
  by_cases h6 : 6 < l.length
  · have d6 : decide (6 < l.length) = true := decide_eq_true h6
    go_enter Try.func4, Try.ntmps4
    go_wp2_with fail
    rw [HW0.out]
    refine (works_any _).mono ?_
    rintro e w9 ⟨rfl, hb9⟩
    replace HB := Lib.hid (HB.out.trans (hb9.mono HB.out.size))
    clear hb9
    go_wp2_with fail
    go_ret
    exact ⟨rfl, HB.out⟩
  · have d6 : decide (6 < l.length) = false := decide_eq_false h6
    go_enter Try.func4, Try.ntmps4
    go_wp2_with fail
    rw [HW0.out]
    refine (far_any xs ys vs X Y V cx cy cv _ HS.out HR.out).mono ?_
    rintro e w1 ⟨rfl, hb1⟩
    have HB1 := Lib.hid hb1
    replace c0 := cell_b hb1 c0
    replace c1 := cell_b hb1 c1
    replace c2 := cell_b hb1 c2
    replace HAA := Lib.hid (HAA.out.below hb1)
    replace HR := Lib.hid (HR.out.below hb1)
    replace HN := Lib.hid (HN.out.below hb1)
    replace HB := Lib.hid (HB.out.trans (hb1.mono HB.out.size))
    clear hb1 HB1
    by_cases hf : farB xs ys vs = true
    · rw [hf]
      clear hf
      go_wp2_with fail
      refine (works_any _).mono ?_
      rintro e w9 ⟨rfl, hb9⟩
      replace HB := Lib.hid (HB.out.trans (hb9.mono HB.out.size))
      clear hb9
      go_wp2_with fail
      go_ret
      exact ⟨rfl, HB.out⟩
    · have hf' : farB xs ys vs = false := by simpa using hf
      rw [hf']
      obtain ⟨⟨s1, s2, s3⟩, s4⟩ := farB_not hf'
      have HTS := Lib.hid (tsz_of hf')
      have HS4 : Hid (∀ r ∈ vs, r.length ≤ 1000000) := fun r hr => by have := s4 r hr; omega
      clear hf hf' s4
      have hbe : (boxErr l == boxErr l) = true := by simp
      have hte : (tabErr xs ys vs == tabErr xs ys vs) = true := by simp
      go_wp2_with fail
      replace HB := Lib.hid (HB.out.drew)
      replace HAA : Hid (Sps w1.drew A l) := HAA.out
      replace HR : Hid (TabR w1.drew X Y V cx cy cv xs ys vs) := ⟨HR.out.hX, HR.out.hY, HR.out.hV, HR.out.lx, HR.out.ly⟩
      replace HN : Hid (TabN w1.drew X Y V cx cy cv xs ys vs) := ⟨HN.out.nx, HN.out.ny, HN.out.mv⟩
      go_region_held3 (fun w' => w'.cell? ⟨w.heap.size, 0, none⟩ = some (.slice X xs.length cx) ∧ w'.cell? ⟨w.heap.size, 1, none⟩ = some (.slice Y ys.length cy) ∧ w'.cell? ⟨w.heap.size, 2, none⟩ = some (.slice V vs.length cv)) (exact ⟨c0, c1, c2⟩)
        (first | (go_at_call 24; refine (box_any A l c _ (by omega) HAA.out HNN.out).mono ?_; rintro e w5 ⟨B, d, rfl, hS5, hb5⟩; have HB5 := Lib.hid hS5; replace c0 := cell_b hb5 c0; replace c1 := cell_b hb5 c1; replace c2 := cell_b hb5 c2; replace HAA := Lib.hid (HAA.out.below hb5); replace HR := Lib.hid (HR.out.below hb5); replace HN := Lib.hid (HN.out.below hb5); replace HB := Lib.hid (HB.out.trans (hb5.mono HB.out.size)); clear hb5) | (go_at_call 23; refine (check_any B l d _ (by omega) HB5.out).mono ?_; rintro e w5 ⟨rfl, hb5⟩; replace c0 := cell_b hb5 c0; replace c1 := cell_b hb5 c1; replace c2 := cell_b hb5 c2; replace HAA := Lib.hid (HAA.out.below hb5); replace HR := Lib.hid (HR.out.below hb5); replace HN := Lib.hid (HN.out.below hb5); replace HB := Lib.hid (HB.out.trans (hb5.mono HB.out.size)); clear hb5) | (go_at_call 25; refine (rcheck_any A l c _ hlm HAA.out).mono ?_; rintro e w5 ⟨rfl, hb5⟩; replace c0 := cell_b hb5 c0; replace c1 := cell_b hb5 c1; replace c2 := cell_b hb5 c2; replace HAA := Lib.hid (HAA.out.below hb5); replace HR := Lib.hid (HR.out.below hb5); replace HN := Lib.hid (HN.out.below hb5); replace HB := Lib.hid (HB.out.trans (hb5.mono HB.out.size)); clear hb5) | (go_at_call 21; refine (copy_any xs ys vs X Y V cx cy cv _ (by omega) (by omega) (by omega) HS4.out HR.out HN.out).mono ?_; rintro e w5 ⟨X', Y', V', cx', cy', cv', rfl, hR5, hb5⟩; have HR5 := Lib.hid hR5; replace c0 := cell_b hb5 c0; replace c1 := cell_b hb5 c1; replace c2 := cell_b hb5 c2; replace HAA := Lib.hid (HAA.out.below hb5); replace HR := Lib.hid (HR.out.below hb5); replace HN := Lib.hid (HN.out.below hb5); replace HB := Lib.hid (HB.out.trans (hb5.mono HB.out.size)); clear hb5) | (go_at_call 26; refine (checkTableR xs ys vs X' Y' V' cx' cy' cv' _ HTS.out HR5.out).mono ?_; rintro e w5 ⟨rfl, hb5⟩; replace c0 := cell_b hb5 c0; replace c1 := cell_b hb5 c1; replace c2 := cell_b hb5 c2; replace HAA := Lib.hid (HAA.out.below hb5); replace HR := Lib.hid (HR.out.below hb5); replace HN := Lib.hid (HN.out.below hb5); replace HB := Lib.hid (HB.out.trans (hb5.mono HB.out.size)); clear hb5) | (go_at_call 18; refine (rcheckTable_any xs ys vs X Y V cx cy cv _ HS.out HR.out).mono ?_; rintro e w5 ⟨rfl, hb5⟩; replace c0 := cell_b hb5 c0; replace c1 := cell_b hb5 c1; replace c2 := cell_b hb5 c2; replace HAA := Lib.hid (HAA.out.below hb5); replace HR := Lib.hid (HR.out.below hb5); replace HN := Lib.hid (HN.out.below hb5); replace HB := Lib.hid (HB.out.trans (hb5.mono HB.out.size)); clear hb5) | (go_at_call 19; refine (works_any _).mono ?_; rintro e w5 ⟨rfl, hb5⟩; replace c0 := cell_b hb5 c0; replace c1 := cell_b hb5 c1; replace c2 := cell_b hb5 c2; replace HAA := Lib.hid (HAA.out.below hb5); replace HR := Lib.hid (HR.out.below hb5); replace HN := Lib.hid (HN.out.below hb5); replace HB := Lib.hid (HB.out.trans (hb5.mono HB.out.size)); clear hb5))
      go_wp2_with fail
      go_ret
      exact ⟨rfl, HB.out⟩
end Go.Proofs.Ytfaiogajaaclcaa
