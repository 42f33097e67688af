/- Texts of the law TopDescends, part 5. No conditions. -/
import Derived.Test.YtbncpngjclabhaaGreatPTopDescends04
import Derived.Deep.RegionWith
import Derived.Deep.RegionLawGrows
import Derived.Deep.RegionHeld3
import Derived.Deep.DeepCutAuto
import Derived.Test.YtbncpngjclabhaaGreatRows
set_option maxRecDepth 100000
set_option maxHeartbeats 16000000
/- The contracts of Add, Times, Part, and of what the reference has for them. -/
namespace Go.Proofs.YtbncpngjclabhaaGreat
open Go.RowKit

theorem cell_b {W W' : World} {B o : Nat} {v : Value} (hb : Below W.heap.size W W') (h : W.cell? ⟨B,o,none⟩ = some v) : W'.cell? ⟨B,o,none⟩ = some v := by
  obtain ⟨ob,ho,_⟩ := cells_of_cell h
  exact (hb.cell (p := ⟨B,o,none⟩) (blk_lt ho)).trans h
theorem froz_b {W W' : World} {B o : Nat} {v : Value} (hb : Below W.heap.size W W') (h : W.cell? ⟨B,o,none⟩ = some v) (hf : W.frozen? ⟨B,o,none⟩ = false) : W'.frozen? ⟨B,o,none⟩ = false := by
  obtain ⟨ob,ho,_⟩ := cells_of_cell h
  exact (hb.frozen (p := ⟨B,o,none⟩) (blk_lt ho)).trans hf
def madeR (a : Int × Int) : (Int × Int) × Int := if vB a then (a,0) else ((0,0),2)
theorem made_any (lo hi : Int) (w : World) :
    Calls Tryz.prog 115 #[.int .i64 lo,.int .i64 hi] w fun e w' => e = .returned (.tuple #[.agg #[.int .i64 (madeR (lo,hi)).1.1,.int .i64 (madeR (lo,hi)).1.2],.int .i64 (madeR (lo,hi)).2]) ∧ Below w.heap.size w w' := by
  have HE : Hid (madeR (lo,hi) = if vB (lo,hi) then ((lo,hi),0) else ((0,0),2)) := rfl
  have HB0 := Lib.hid (show Below w.heap.size w ((w.alloc (.cells #[.int .i64 0,.int .i64 0] 31)).alloc (.cells #[.int .i64 lo,.int .i64 hi] 31)) from ((Below.refl _ w).alloc (Nat.le_refl _) _).alloc (by simp) _)
  have HA0 := Lib.hid (blk_old (.cells #[.int .i64 lo,.int .i64 hi] 31) (blk_new w (.cells #[.int .i64 0,.int .i64 0] 31)))
  have HC0 : Hid (((w.alloc (.cells #[.int .i64 0,.int .i64 0] 31)).alloc (.cells #[.int .i64 lo,.int .i64 hi] 31)).heap[w.heap.size + 1]? = some (.cells #[.int .i64 lo,.int .i64 hi] 31)) := by
    have := blk_new (w.alloc (.cells #[.int .i64 0,.int .i64 0] 31)) (.cells #[.int .i64 lo,.int .i64 hi] 31)
    rw [World.size_alloc] at this; exact this
  go_enter Tryz.func115,Tryz.ntmps115
  go_wp2_with fail
  refine (valid_any (lo,hi) _).mono ?_
  rintro e w1 ⟨rfl,hb1⟩
  have HB1 := Lib.hid (HB0.out.trans (hb1.mono HB0.out.size))
  obtain ⟨⟨c1,c2⟩,c3,c4⟩ := cells2 (blk hb1 HA0.out)
  obtain ⟨⟨c5,c6⟩,_⟩ := cells2 (blk hb1 HC0.out)
  clear hb1
  by_cases hv : vB (lo,hi) = true
  · rw [hv]
    rw [if_pos hv] at HE
    clear hv
    go_wp2_with fail
    refine bodyPost_ret (v := .tuple #[.agg #[.int .i64 lo,.int .i64 hi],.int .i64 0]) (by simp [results,Tryz.results115,go_sem,c1,c2]) rfl ⟨by rw [HE.out],set2_below HB1.out (Nat.le_refl _) _ _⟩
  · have hv' : vB (lo,hi) = false := by simpa using hv
    rw [hv']
    rw [if_neg hv] at HE
    clear hv hv'
    go_wp2_with fail
    refine bodyPost_ret (v := .tuple #[.agg #[.int .i64 0,.int .i64 0],.int .i64 2]) (by simp [results,Tryz.results115,go_sem,c1,c2]) rfl ⟨by rw [HE.out],set2_below HB1.out (Nat.le_refl _) _ _⟩
theorem rmade_any (a : Int × Int) (w : World) :
    Calls Tryz.prog 78 #[.agg #[.int .i64 a.1,.int .i64 a.2]] w fun e w' => e = .returned (.tuple #[.agg #[.int .i64 (madeR a).1.1,.int .i64 (madeR a).1.2],.int .i64 (madeR a).2]) ∧ Below w.heap.size w w' := by
  obtain ⟨lo,hi⟩ := a
  show Calls Tryz.prog 78 #[.agg #[.int .i64 lo,.int .i64 hi]] w _
  have HE : Hid (madeR (lo,hi) = if vB (lo,hi) then ((lo,hi),0) else ((0,0),2)) := rfl
  have HB0 := Lib.hid (show Below w.heap.size w ((w.alloc (.cells #[.int .i64 lo,.int .i64 hi] 31)).alloc (.cells #[.int .i64 0,.int .i64 0] 31)) from ((Below.refl _ w).alloc (Nat.le_refl _) _).alloc (by simp) _)
  have HA0 := Lib.hid (blk_old (.cells #[.int .i64 0,.int .i64 0] 31) (blk_new w (.cells #[.int .i64 lo,.int .i64 hi] 31)))
  have HC0 : Hid (((w.alloc (.cells #[.int .i64 lo,.int .i64 hi] 31)).alloc (.cells #[.int .i64 0,.int .i64 0] 31)).heap[w.heap.size + 1]? = some (.cells #[.int .i64 0,.int .i64 0] 31)) := by
    have := blk_new (w.alloc (.cells #[.int .i64 lo,.int .i64 hi] 31)) (.cells #[.int .i64 0,.int .i64 0] 31)
    rw [World.size_alloc] at this; exact this
  go_enter Tryz.func78,Tryz.ntmps78
  go_wp2_with fail
  refine (rvalid_any (lo,hi) _).mono ?_
  rintro e w1 ⟨rfl,hb1⟩
  have HB1 := Lib.hid (HB0.out.trans (hb1.mono HB0.out.size))
  obtain ⟨⟨c5,c6⟩,_⟩ := cells2 (blk hb1 HA0.out)
  obtain ⟨⟨c1,c2⟩,c3,c4⟩ := cells2 (blk hb1 HC0.out)
  clear hb1
  by_cases hv : vB (lo,hi) = true
  · rw [hv]
    rw [if_pos hv] at HE
    clear hv
    go_wp2_with fail
    refine bodyPost_ret (v := .tuple #[.agg #[.int .i64 lo,.int .i64 hi],.int .i64 0]) (by simp [results,Tryz.results78,go_sem,c1,c2]) rfl ⟨by rw [HE.out],set2_below HB1.out (by omega) _ _⟩
  · have hv' : vB (lo,hi) = false := by simpa using hv
    rw [hv']
    rw [if_neg hv] at HE
    clear hv hv'
    go_wp2_with fail
    refine bodyPost_ret (v := .tuple #[.agg #[.int .i64 0,.int .i64 0],.int .i64 2]) (by simp [results,Tryz.results78,go_sem,c1,c2]) rfl ⟨by rw [HE.out],set2_below HB1.out (by omega) _ _⟩
theorem mul_abs {a b M N : Int} (hM : 0 ≤ M) (hN : 0 ≤ N) (h1 : -M ≤ a) (h2 : a ≤ M) (h3 : -N ≤ b) (h4 : b ≤ N) : -(M * N) ≤ a * b ∧ a * b ≤ M * N := by
  have ha : a.natAbs ≤ M.toNat := by omega
  have hb : b.natAbs ≤ N.toNat := by omega
  have h := Nat.mul_le_mul ha hb
  have e : (a * b).natAbs = a.natAbs * b.natAbs := Int.natAbs_mul a b
  have e2 : ((M.toNat * N.toNat : Nat) : Int) = M * N := by rw [Int.natCast_mul,Int.toNat_of_nonneg hM,Int.toNat_of_nonneg hN]
  omega
theorem rfloor_eq (a b : Int) (hb : 1 ≤ b) : -((-a + b - 1) / b) = a / b := by
  have e := Int.mul_ediv_add_emod a b
  have e1 := Int.emod_nonneg a (show b ≠ 0 by omega)
  have e2 := Int.emod_lt_of_pos a (show 0 < b by omega)
  have h := ((Int.ediv_emod_unique (a := -a + b - 1) (b := b) (r := b - 1 - a % b) (q := -(a / b)) (by omega)).2 ⟨by rw [Int.mul_neg]; omega,by omega,by omega⟩).1
  rw [h]; omega
theorem rfloor_any (a b : Int) (w : World) (hb : 1 ≤ b) (hb' : b ≤ 1000000000000000000) (ha : -1000000000000000000 ≤ a) (ha' : a ≤ 1000000000000000000):
    Calls Tryz.prog 79 #[.int .i64 a,.int .i64 b] w fun e w' => e = .returned (.int .i64 (a / b)) ∧ w' = w := by
  have F := Lib.hid (rfloor_eq a b hb)
  by_cases h : 0 ≤ a
  · go_enter Tryz.func79,Tryz.ntmps79
    go_wp2
    go_ret
    exact ⟨rfl,rfl⟩
  · have hq := ediv_bd (-a + b - 1) b 4000000000000000000 (by omega) hb (by omega) (by omega)
    have hn : 0 ≤ -a + b - 1 := by omega
    go_enter Tryz.func79,Tryz.ntmps79
    go_wp2
    go_ret
    exact ⟨by rw [← F.out]; rfl,rfl⟩
theorem rceil_any (a b : Int) (w : World) (hb : 1 ≤ b) (hb' : b ≤ 1000000000000000000) (ha : -1000000000000000000 ≤ a) (ha' : a ≤ 1000000000000000000):
    Calls Tryz.prog 80 #[.int .i64 a,.int .i64 b] w fun e w' => e = .returned (.int .i64 (-(-a / b))) ∧ w' = w := by
  obtain ⟨hq1,hq2⟩ := ediv_bd (-a) b 4000000000000000000 (by omega) hb (by omega) (by omega)
  go_enter Tryz.func80,Tryz.ntmps80
  go_wp2_with (go_at_call 79; refine (rfloor_any _ _ _ (by omega) (by omega) (by omega) (by omega)).mono ?_; rintro e w' ⟨rfl,rfl⟩)
  go_ret
  exact ⟨rfl,rfl⟩
def partR (a : Int × Int) (num den : Int) : (Int × Int) × Int := if vB a then (if wB num 0 1000 && wB den 1 1000 then madeR (a.1 * num / den, -(-(a.2 * num) / den)) else ((0,0),1)) else ((0,0),10)
theorem spErr1 (a : Int × Int) : spErr [a] = if vB a then 0 else 10 := by
  unfold spErr
  cases h1 : vB a <;> simp [h1]
theorem sps_new1 (w : World) (a b : Int) (t : TypeId) (B : Nat) (hB : B = w.heap.size) : Sps (w.alloc (.cells #[.int .i64 a,.int .i64 b] t)) (some ⟨B,0,none⟩) [(a,b)] := fun _ => by
  subst hB
  refine ⟨_,0,rfl,by simp,fun k hk => ?_⟩
  match k,hk with
  | 0,_ => simp
theorem part_any (a : Int × Int) (num den : Int) (w : World) :
    Calls Tryz.prog 95 #[.agg #[.int .i64 a.1,.int .i64 a.2],.int .i64 num,.int .i64 den] w fun e w' => e = .returned (.tuple #[.agg #[.int .i64 (partR a num den).1.1,.int .i64 (partR a num den).1.2],.int .i64 (partR a num den).2]) ∧ Below w.heap.size w w' := by
  obtain ⟨a1,a2⟩ := a
  show Calls Tryz.prog 95 #[.agg #[.int .i64 a1,.int .i64 a2],.int .i64 num,.int .i64 den] w _
  have HE : Hid (partR (a1,a2) num den = if vB (a1,a2) then (if wB num 0 1000 && wB den 1 1000 then madeR (a1 * num / den, -(-(a2 * num) / den)) else ((0,0),1)) else ((0,0),10)) := rfl
  have HS := Lib.hid (spErr1 (a1,a2))
  have HB0 := Lib.hid (show Below w.heap.size w ((w.alloc (.cells #[.int .i64 a1,.int .i64 a2] 31)).alloc (.cells #[.int .i64 0,.int .i64 0] 31)) from ((Below.refl _ w).alloc (Nat.le_refl _) _).alloc (by simp) _)
  have HA0 := Lib.hid (blk_old (.cells #[.int .i64 0,.int .i64 0] 31) (blk_new w (.cells #[.int .i64 a1,.int .i64 a2] 31)))
  have HC0 : Hid (((w.alloc (.cells #[.int .i64 a1,.int .i64 a2] 31)).alloc (.cells #[.int .i64 0,.int .i64 0] 31)).heap[w.heap.size + 1]? = some (.cells #[.int .i64 0,.int .i64 0] 31)) := by
    have := blk_new (w.alloc (.cells #[.int .i64 a1,.int .i64 a2] 31)) (.cells #[.int .i64 0,.int .i64 0] 31)
    rw [World.size_alloc] at this; exact this
  go_enter Tryz.func95,Tryz.ntmps95
  go_wp2_with fail
  refine (spanned_any _ [(a1,a2)] 1 _ (by simp) (sps_new1 _ _ _ _ _ (by simp))).mono ?_
  rintro e w1 ⟨rfl,hb0⟩
  rw [HS.out]
  have hb1 : Below ((w.alloc (.cells #[.int .i64 a1,.int .i64 a2] 31)).alloc (.cells #[.int .i64 0,.int .i64 0] 31)).heap.size ((w.alloc (.cells #[.int .i64 a1,.int .i64 a2] 31)).alloc (.cells #[.int .i64 0,.int .i64 0] 31)) w1 := ((Below.refl _ _).alloc (Nat.le_refl _) _).trans (hb0.mono (by simp))
  clear hb0
  have HB := Lib.hid (HB0.out.trans (hb1.mono HB0.out.size))
  obtain ⟨⟨p1,p2⟩,_⟩ := cells2 (blk hb1 HA0.out)
  obtain ⟨⟨p5,p6⟩,p7,p8⟩ := cells2 (blk hb1 HC0.out)
  clear hb1
  by_cases hv : vB (a1,a2) = true
  · rw [hv]
    rw [if_pos hv] at HE
    obtain ⟨g1,g2,g3⟩ := vB_iff.1 hv
    simp only at g1 g2 g3
    clear hv
    by_cases n1 : wB num 0 1000 = true
    · have N1 := Lib.hid n1
      obtain ⟨g4,g5⟩ := wB_iff.1 n1
      clear n1
      by_cases n2 : wB den 1 1000 = true
      · have N2 := Lib.hid n2
        obtain ⟨g6,g7⟩ := wB_iff.1 n2
        clear n2
        rw [N1.out,N2.out] at HE
        have HE2 : Hid (partR (a1,a2) num den = madeR (a1 * num / den, -(-(a2 * num) / den))) := HE.out
        have m1 := mul_abs (a := a1) (b := num) (M := 1000000) (N := 1000) (by omega) (by omega) (by omega) (by omega) (by omega) (by omega)
        have m2 := mul_abs (a := a2) (b := num) (M := 1000000) (N := 1000) (by omega) (by omega) (by omega) (by omega) (by omega) (by omega)
        clear HE
        go_wp2_with fail
        refine (within_any _ _ _ _).mono ?_
        rintro e w' ⟨rfl,rfl⟩
        rw [N1.out]
        go_wp2_with fail
        refine (within_any _ _ _ _).mono ?_
        rintro e w' ⟨rfl,rfl⟩
        rw [N2.out]
        go_wp2_with fail
        have u1 : IntKind.i64.wrap (a1 * num) = a1 * num := IntWalk.i64_in _ (by omega)
        have u2 : IntKind.i64.wrap (a2 * num) = a2 * num := IntWalk.i64_in _ (by omega)
        generalize hm : madeR (a1 * num / den, -(-(a2 * num) / den)) = R at *
        obtain ⟨⟨u,v⟩,c⟩ := R
        have HM := Lib.hid hm
        clear hm
        go_region_with (first | (go_at_call 36; refine (floor_any _ _ _ (by omega) (by omega) (by omega) (by omega)).mono ?_; rintro e w' ⟨rfl,rfl⟩) | (go_at_call 65; refine (ceil_any _ _ _ (by omega) (by omega) (by omega) (by omega)).mono ?_; rintro e w' ⟨rfl,rfl⟩) | (go_at_call 115; refine (made_any _ _ _).mono ?_; rintro e w2 ⟨rfl,hb1⟩; rw [HM.out]; have q5 := cell_b hb1 p5; have q6 := cell_b hb1 p6; have q7 := froz_b hb1 p5 p7; have q8 := froz_b hb1 p6 p8; have HB2 : Hid (Below w.heap.size w w2) := HB.out.trans ((Below.drew (Below.refl _ _)).trans (hb1.mono HB.out.size)); clear hb1 p1 p2 p5 p6 p7 p8))
        all_goals
          go_wp2_with fail
          refine bodyPost_ret (v := .tuple #[.agg #[.int .i64 u,.int .i64 v],.int .i64 c]) (by simp [results,Tryz.results95,go_sem,q5,q6]) rfl ⟨by rw [HE2.out],set2_below HB2.out (by omega) _ _⟩
      · have n2' : wB den 1 1000 = false := by simpa using n2
        have N2 := Lib.hid n2'
        clear n2 n2'
        rw [N1.out,N2.out] at HE
        have HE2 : Hid (partR (a1,a2) num den = ((0,0),1)) := HE.out
        clear HE
        go_wp2_with fail
        refine (within_any _ _ _ _).mono ?_
        rintro e w' ⟨rfl,rfl⟩
        rw [N1.out]
        go_wp2_with fail
        refine (within_any _ _ _ _).mono ?_
        rintro e w' ⟨rfl,rfl⟩
        rw [N2.out]
        go_wp2_with fail
        refine bodyPost_ret (v := .tuple #[.agg #[.int .i64 0,.int .i64 0],.int .i64 1]) (by simp [results,Tryz.results95,go_sem,p5,p6]) rfl ⟨by rw [HE2.out],set2_below HB.out (by omega) _ _⟩
    · have n1' : wB num 0 1000 = false := by simpa using n1
      have N1 := Lib.hid n1'
      clear n1 n1'
      rw [N1.out] at HE
      have HE2 : Hid (partR (a1,a2) num den = ((0,0),1)) := HE.out
      clear HE
      go_wp2_with fail
      refine (within_any _ _ _ _).mono ?_
      rintro e w' ⟨rfl,rfl⟩
      rw [N1.out]
      go_wp2_with fail
      refine bodyPost_ret (v := .tuple #[.agg #[.int .i64 0,.int .i64 0],.int .i64 1]) (by simp [results,Tryz.results95,go_sem,p5,p6]) rfl ⟨by rw [HE2.out],set2_below HB.out (by omega) _ _⟩
  · have hv' : vB (a1,a2) = false := by simpa using hv
    rw [hv']
    rw [if_neg hv] at HE
    clear hv hv'
    go_wp2_with fail
    refine bodyPost_ret (v := .tuple #[.agg #[.int .i64 0,.int .i64 0],.int .i64 10]) (by simp [results,Tryz.results95,go_sem,p5,p6]) rfl ⟨by rw [HE.out],set2_below HB.out (by omega) _ _⟩
theorem rpart_any (a : Int × Int) (num den : Int) (w : World) :
    Calls Tryz.prog 54 #[.agg #[.int .i64 a.1,.int .i64 a.2],.int .i64 num,.int .i64 den] w fun e w' => e = .returned (.tuple #[.agg #[.int .i64 (partR a num den).1.1,.int .i64 (partR a num den).1.2],.int .i64 (partR a num den).2]) ∧ Below w.heap.size w w' := by
  obtain ⟨a1,a2⟩ := a
  show Calls Tryz.prog 54 #[.agg #[.int .i64 a1,.int .i64 a2],.int .i64 num,.int .i64 den] w _
  have HE : Hid (partR (a1,a2) num den = if vB (a1,a2) then (if wB num 0 1000 && wB den 1 1000 then madeR (a1 * num / den, -(-(a2 * num) / den)) else ((0,0),1)) else ((0,0),10)) := rfl
  have HS := Lib.hid (spErr1 (a1,a2))
  have HB0 := Lib.hid (show Below w.heap.size w ((w.alloc (.cells #[.int .i64 a1,.int .i64 a2] 31)).alloc (.cells #[.int .i64 0,.int .i64 0] 31)) from ((Below.refl _ w).alloc (Nat.le_refl _) _).alloc (by simp) _)
  have HA0 := Lib.hid (blk_old (.cells #[.int .i64 0,.int .i64 0] 31) (blk_new w (.cells #[.int .i64 a1,.int .i64 a2] 31)))
  have HC0 : Hid (((w.alloc (.cells #[.int .i64 a1,.int .i64 a2] 31)).alloc (.cells #[.int .i64 0,.int .i64 0] 31)).heap[w.heap.size + 1]? = some (.cells #[.int .i64 0,.int .i64 0] 31)) := by
    have := blk_new (w.alloc (.cells #[.int .i64 a1,.int .i64 a2] 31)) (.cells #[.int .i64 0,.int .i64 0] 31)
    rw [World.size_alloc] at this; exact this
  go_enter Tryz.func54,Tryz.ntmps54
  go_wp2_with fail
  refine (rvalid_any (a1,a2) _).mono ?_
  rintro e w1 ⟨rfl,hb1⟩
  have HB := Lib.hid (HB0.out.trans (hb1.mono HB0.out.size))
  obtain ⟨⟨p1,p2⟩,_⟩ := cells2 (blk hb1 HA0.out)
  obtain ⟨⟨p5,p6⟩,p7,p8⟩ := cells2 (blk hb1 HC0.out)
  clear hb1
  by_cases hv : vB (a1,a2) = true
  · rw [hv]
    rw [if_pos hv] at HE
    obtain ⟨g1,g2,g3⟩ := vB_iff.1 hv
    simp only at g1 g2 g3
    clear hv
    by_cases n1 : wB num 0 1000 = true
    · have N1 := Lib.hid n1
      obtain ⟨g4,g5⟩ := wB_iff.1 n1
      clear n1
      by_cases n2 : wB den 1 1000 = true
      · have N2 := Lib.hid n2
        obtain ⟨g6,g7⟩ := wB_iff.1 n2
        clear n2
        rw [N1.out,N2.out] at HE
        have HE2 : Hid (partR (a1,a2) num den = madeR (a1 * num / den, -(-(a2 * num) / den))) := HE.out
        have m1 := mul_abs (a := a1) (b := num) (M := 1000000) (N := 1000) (by omega) (by omega) (by omega) (by omega) (by omega) (by omega)
        have m2 := mul_abs (a := a2) (b := num) (M := 1000000) (N := 1000) (by omega) (by omega) (by omega) (by omega) (by omega) (by omega)
        clear HE
        go_wp2_with fail
        refine (from_any _ _ _ _).mono ?_
        rintro e w' ⟨rfl,rfl⟩
        rw [N1.out]
        go_wp2_with fail
        refine (from_any _ _ _ _).mono ?_
        rintro e w' ⟨rfl,rfl⟩
        rw [N2.out]
        go_wp2_with fail
        have u1 : IntKind.i64.wrap (a1 * num) = a1 * num := IntWalk.i64_in _ (by omega)
        have u2 : IntKind.i64.wrap (a2 * num) = a2 * num := IntWalk.i64_in _ (by omega)
        generalize hm : madeR (a1 * num / den, -(-(a2 * num) / den)) = R at *
        obtain ⟨⟨u,v⟩,c⟩ := R
        have HM := Lib.hid hm
        clear hm
        go_region_with (first | (go_at_call 79; refine (rfloor_any _ _ _ (by omega) (by omega) (by omega) (by omega)).mono ?_; rintro e w' ⟨rfl,rfl⟩) | (go_at_call 80; refine (rceil_any _ _ _ (by omega) (by omega) (by omega) (by omega)).mono ?_; rintro e w' ⟨rfl,rfl⟩) | (go_at_call 78; refine (rmade_any (_,_) _).mono ?_; rintro e w2 ⟨rfl,hb1⟩; rw [HM.out]; have q5 := cell_b hb1 p5; have q6 := cell_b hb1 p6; have q7 := froz_b hb1 p5 p7; have q8 := froz_b hb1 p6 p8; have HB2 : Hid (Below w.heap.size w w2) := HB.out.trans ((Below.drew (Below.refl _ _)).trans (hb1.mono HB.out.size)); clear hb1 p1 p2 p5 p6 p7 p8))
        all_goals
          go_wp2_with fail
          refine bodyPost_ret (v := .tuple #[.agg #[.int .i64 u,.int .i64 v],.int .i64 c]) (by simp [results,Tryz.results54,go_sem,q5,q6]) rfl ⟨by rw [HE2.out],set2_below HB2.out (by omega) _ _⟩
      · have n2' : wB den 1 1000 = false := by simpa using n2
        have N2 := Lib.hid n2'
        clear n2 n2'
        rw [N1.out,N2.out] at HE
        have HE2 : Hid (partR (a1,a2) num den = ((0,0),1)) := HE.out
        clear HE
        go_wp2_with fail
        refine (from_any _ _ _ _).mono ?_
        rintro e w' ⟨rfl,rfl⟩
        rw [N1.out]
        go_wp2_with fail
        refine (from_any _ _ _ _).mono ?_
        rintro e w' ⟨rfl,rfl⟩
        rw [N2.out]
        go_wp2_with fail
        refine bodyPost_ret (v := .tuple #[.agg #[.int .i64 0,.int .i64 0],.int .i64 1]) (by simp [results,Tryz.results54,go_sem,p5,p6]) rfl ⟨by rw [HE2.out],set2_below HB.out (by omega) _ _⟩
    · have n1' : wB num 0 1000 = false := by simpa using n1
      have N1 := Lib.hid n1'
      clear n1 n1'
      rw [N1.out] at HE
      have HE2 : Hid (partR (a1,a2) num den = ((0,0),1)) := HE.out
      clear HE
      go_wp2_with fail
      refine (from_any _ _ _ _).mono ?_
      rintro e w' ⟨rfl,rfl⟩
      rw [N1.out]
      go_wp2_with fail
      refine bodyPost_ret (v := .tuple #[.agg #[.int .i64 0,.int .i64 0],.int .i64 1]) (by simp [results,Tryz.results54,go_sem,p5,p6]) rfl ⟨by rw [HE2.out],set2_below HB.out (by omega) _ _⟩
  · have hv' : vB (a1,a2) = false := by simpa using hv
    rw [hv']
    rw [if_neg hv] at HE
    clear hv hv'
    go_wp2_with fail
    refine bodyPost_ret (v := .tuple #[.agg #[.int .i64 0,.int .i64 0],.int .i64 10]) (by simp [results,Tryz.results54,go_sem,p5,p6]) rfl ⟨by rw [HE.out],set2_below HB.out (by omega) _ _⟩
end Go.Proofs.YtbncpngjclabhaaGreat
/- The reference's CheckBound, corners and less. -/
namespace Go.Proofs.YtbncpngjclabhaaGreat
open Go.RowKit

theorem rcb_any (xs ys : List Int) (vs : List (List Int)) (X Y V : Option Addr) (cx cy cv : Nat) (x y : Int × Int) (w : World) (hS : TSm xs ys vs) (hR : TabR w X Y V cx cy cv xs ys vs) :
   Calls Tryz.prog 122 #[.agg #[.slice X xs.length cx,.slice Y ys.length cy,.slice V vs.length cv],.agg #[.int .i64 x.1,.int .i64 x.2],.agg #[.int .i64 y.1,.int .i64 y.2]] w fun e w' => e = .returned (.int .i64 (cpErr xs ys vs x y)) ∧ Below w.heap.size w w' := by
  obtain ⟨xl,xh⟩ := x
  obtain ⟨yl,yh⟩ := y
  show Calls Tryz.prog 122 #[.agg #[.slice X xs.length cx,.slice Y ys.length cy,.slice V vs.length cv],.agg #[.int .i64 xl,.int .i64 xh],.agg #[.int .i64 yl,.int .i64 yh]] w _
  have HS := Lib.hid hS
  have HE : Hid (cpErr xs ys vs (xl,xh) (yl,yh) = if tabB xs ys vs then (if spErr [(xl,xh),(yl,yh)] != 0 then spErr [(xl,xh),(yl,yh)] else if liesB xs (xl,xh) && liesB ys (yl,yh) then 0 else 1) else 11) := rfl
  obtain ⟨W0,hW0⟩ : ∃ W0,(((w.alloc (.cells #[.slice X xs.length cx,.slice Y ys.length cy,.slice V vs.length cv] 25)).alloc (.cells #[.int .i64 xl,.int .i64 xh] 31)).alloc (.cells #[.int .i64 yl,.int .i64 yh] 31)) = W0 := ⟨_,rfl⟩
  have HB : Hid (Below w.heap.size w W0) := by
    unfold Hid; rw [← hW0]
    repeat (first | exact Below.refl _ _ | refine Below.alloc ?_ (by simp <;> omega) _)
  have ha : W0.heap[w.heap.size]? = some (.cells #[.slice X xs.length cx,.slice Y ys.length cy,.slice V vs.length cv] 25) := by
    rw [← hW0]; simp only [heap_alloc_at,World.size_alloc]; repeat (first | rw [if_pos trivial] | rw [if_neg (by omega)])
  have hb : W0.heap[w.heap.size + 1]? = some (.cells #[.int .i64 xl,.int .i64 xh] 31) := by
    rw [← hW0]; simp only [heap_alloc_at,World.size_alloc]; repeat (first | rw [if_pos trivial] | rw [if_neg (by omega)])
  have hc : W0.heap[w.heap.size + 1 + 1]? = some (.cells #[.int .i64 yl,.int .i64 yh] 31) := by
    rw [← hW0]; simp only [heap_alloc_at,World.size_alloc]; repeat (first | rw [if_pos trivial] | rw [if_neg (by omega)])
  obtain ⟨⟨c0,c1,c2⟩,_⟩ := cells3 ha
  obtain ⟨⟨p0,p1⟩,_⟩ := cells2 hb
  obtain ⟨⟨q0,q1⟩,_⟩ := cells2 hc
  have HR := Lib.hid (hR.below HB.out)
  have HW0 := Lib.hid hW0
  clear hW0 ha hb hc hS hR
  go_enter Tryz.func122,Tryz.ntmps122
  go_wp2_with fail
  rw [HW0.out]
  refine (rcheckTable_any xs ys vs X Y V cx cy cv _ HS.out HR.out).mono ?_
  rintro e w1 ⟨rfl,hb1⟩
  replace c0 := cell_b hb1 c0
  replace c1 := cell_b hb1 c1
  replace c2 := cell_b hb1 c2
  replace p0 := cell_b hb1 p0
  replace p1 := cell_b hb1 p1
  replace q0 := cell_b hb1 q0
  replace q1 := cell_b hb1 q1
  replace HR := Lib.hid (HR.out.below hb1)
  replace HB := Lib.hid (HB.out.trans (hb1.mono HB.out.size))
  clear hb1
  by_cases ht : tabB xs ys vs = true
  · have hte : tabErr xs ys vs = 0 := by unfold tabErr; rw [if_pos ht]
    rw [hte]
    rw [if_pos ht] at HE
    have hx2 := (tbl_of ht).ax.two
    have hx12 := (tbl_of ht).ax.twelve
    have hy2 := (tbl_of ht).ay.two
    have hy12 := (tbl_of ht).ay.twelve
    clear ht hte
    go_wp2_with fail
    refine (two_any (xl,xh) (yl,yh) _).mono ?_
    rintro e w2 ⟨rfl,hb2⟩
    replace c0 := cell_b hb2 c0
    replace c1 := cell_b hb2 c1
    replace c2 := cell_b hb2 c2
    replace p0 := cell_b hb2 p0
    replace p1 := cell_b hb2 p1
    replace q0 := cell_b hb2 q0
    replace q1 := cell_b hb2 q1
    replace HR := Lib.hid (HR.out.below hb2)
    replace HB := Lib.hid (HB.out.trans (hb2.mono HB.out.size))
    clear hb2
    by_cases hs : (spErr [(xl,xh),(yl,yh)] != 0) = true
    · rw [if_pos hs] at HE
      generalize spErr [(xl,xh),(yl,yh)] = se at *
      go_wp2_with fail
      go_ret
      exact ⟨by rw [HE.out]; rfl,HB.out⟩
    · have hs' : spErr [(xl,xh),(yl,yh)] = 0 := by simpa using hs
      rw [if_neg hs] at HE
      rw [hs']
      clear hs hs'
      go_wp2_with fail
      refine (between_any X xs cx xl xh _ (by omega) (by omega) HR.out.hX).mono ?_
      rintro e w3 ⟨rfl,hb3⟩
      replace c0 := cell_b hb3 c0
      replace c1 := cell_b hb3 c1
      replace c2 := cell_b hb3 c2
      replace p0 := cell_b hb3 p0
      replace p1 := cell_b hb3 p1
      replace q0 := cell_b hb3 q0
      replace q1 := cell_b hb3 q1
      replace HR := Lib.hid (HR.out.below hb3)
      replace HB := Lib.hid (HB.out.trans (hb3.mono HB.out.size))
      clear hb3
      by_cases l1 : liesB xs (xl,xh) = true
      · rw [l1] at HE ⊢
        clear l1
        go_wp2_with fail
        refine (between_any Y ys cy yl yh _ (by omega) (by omega) HR.out.hY).mono ?_
        rintro e w4 ⟨rfl,hb4⟩
        replace c0 := cell_b hb4 c0
        replace c1 := cell_b hb4 c1
        replace c2 := cell_b hb4 c2
        replace p0 := cell_b hb4 p0
        replace p1 := cell_b hb4 p1
        replace q0 := cell_b hb4 q0
        replace q1 := cell_b hb4 q1
        replace HR := Lib.hid (HR.out.below hb4)
        replace HB := Lib.hid (HB.out.trans (hb4.mono HB.out.size))
        clear hb4
        by_cases l2 : liesB ys (yl,yh) = true
        · rw [l2] at HE ⊢
          clear l2
          go_wp2_with fail
          go_ret
          exact ⟨by rw [HE.out]; rfl,HB.out⟩
        · have l2' : liesB ys (yl,yh) = false := by simpa using l2
          rw [l2'] at HE ⊢
          clear l2 l2'
          go_wp2_with fail
          go_ret
          exact ⟨by rw [HE.out]; rfl,HB.out⟩
      · have l1' : liesB xs (xl,xh) = false := by simpa using l1
        rw [l1'] at HE ⊢
        clear l1 l1'
        go_wp2_with fail
        go_ret
        exact ⟨by rw [HE.out]; rfl,HB.out⟩
  · have hte : tabErr xs ys vs = 11 := by unfold tabErr; rw [if_neg ht]
    rw [hte]
    rw [if_neg ht] at HE
    clear ht hte
    go_wp2_with fail
    go_ret
    exact ⟨by rw [HE.out]; rfl,HB.out⟩
theorem own_drewN {w : World} {base : Nat} {e : TypeId} {s : Nat} {v : Value} {n : Nat} {xs : List Value} (h : w.ownsRow base e s v n xs) (m : Nat) : (w.drewN m).ownsRow base e s v n xs := h
theorem rcorners_any (A : Option Addr) (l : List Int) (c : Nat) (lo hi : Int) (w : World) (hl : l.length ≤ 1000000) (hA : Ints w A l) :
    Calls Tryz.prog 128 #[.slice A l.length c,.agg #[.int .i64 lo,.int .i64 hi]] w (OutInts (stopsL l lo hi) w) := by
  obtain ⟨i0,hi0,hz0,hz1,hz2⟩ := info_parts Tryz.info_int
  have HA := Lib.hid hA
  clear hA
  have hsp : ∀ k,(accL l lo hi k).length ≤ l.length + 1 := accL_len l lo hi
  have HSP := Lib.hid hsp
  have HW1 := Lib.hid (show Below w.heap.size w (w.alloc (.cells #[.int .i64 lo,.int .i64 hi] 31)) from (Below.refl _ _).alloc (Nat.le_refl _) _)
  clear hsp
  go_enter Tryz.func128,Tryz.ntmps128
  go_wp2_with fail
  go_loopw [5,6] (fun v i wr => ∃ k : Nat,k ≤ l.length ∧ i = .int .i64 k ∧ wr.ownsRow (w.heap.size + 1) 3 1 v (accL l lo hi k).length (IV (accL l lo hi k)) ∧
      Below (w.heap.size + 1) (w.alloc (.cells #[.int .i64 lo,.int .i64 hi] 31)) wr) (fun _ i _ => l.length - (intOf i).toNat)
  case atStart =>
    refine ⟨0,by omega,rfl,?_,(Below.refl _ _).alloc (by simp) _⟩
    have := World.ownsRow_lit (base := w.heap.size + 1) (e := 3) (size := 1) (w.alloc (.cells #[.int .i64 lo,.int .i64 hi] 31)) #[.int .i64 lo] 1 (by simp) (by simp [maxLen]) (by simp)
    simpa [midL,accL,IV] using this
  case round =>
    obtain ⟨k,hk,rfl,hown,hb⟩ := hrel
    have hlo : wr.cell? ⟨w.heap.size,0,none⟩ = some (.int .i64 lo) := (hb.cell (by simp)).trans (by simp)
    have hhi : wr.cell? ⟨w.heap.size,1,none⟩ = some (.int .i64 hi) := (hb.cell (by simp)).trans (by simp)
    have hszr := hb.size
    simp only [World.size_alloc] at hszr
    have HOWN := Lib.hid hown
    have HBR := Lib.hid hb
    clear hown hb
    by_cases hlt : k < l.length
    · obtain ⟨b,off,rfl,hbl,hc⟩ := HA.out (by omega)
      have hc1 : wr.cell? ⟨b,off + k,none⟩ = some (.int .i64 (l[k]?.getD 0)) := (HBR.out.cell (p := ⟨b,off + k,none⟩) (by simp; omega)).trans ((World.cell?_alloc_lt _ _ _ hbl).trans (hc k hlt))
      clear hc
      have t1 : (k : Int) < (l.length : Int) := by omega
      have t2 : (0 : Int) ≤ (k : Int) := by omega
      generalize hx : l[k]?.getD 0 = x at hc1
      have HX := Lib.hid hx
      clear hx
      by_cases h1 : lo < x
      · by_cases h2 : x < hi
        · go_wp2_with fail
          go_quiet (fail)
          go_wp2_with (at_builtin; refine wpList_append_own _ rfl _ _ 22 rfl (w.heap.size + 1) 3 i0 (.int .i64 0) 1 8 Tryz.underlying22 hi0 hz0 hz1 hz2 rfl (by decide) _ _ _ rfl ((own_drewN HOWN.out nq).alloc _) ⟨wr.heap.size,0,none⟩ 1 1 [.int .i64 x] rfl rfl ?c1 ?c2 ?c3 ?c4 ?c5 ?_)
          case c1 => exact cell_one_new _ _ _
          case c2 => simp [Value.oneCell']
          case c3 => have := HSP.out k; simp only [maxLen]; omega
          case c4 => have := HSP.out k; omega
          case c5 => simp; omega
          intro v' w1 hown1 hg1 _
          have HO1 := Lib.hid hown1
          have HB1 := Lib.hid (((Below.drewN' HBR.out nq).alloc (by simp; omega) _).grown hg1 (by simp; omega) (ownBlock_ge HOWN.out))
          clear hown1 hg1
          go_wp2_with fail
          go_roundw
          case rel => exact ⟨k + 1,by omega,by go_num,by rw [accL_yes hlt HX.out h1 h2,List.length_append,IV_snoc]; exact HO1.out,HB1.out⟩
          case measure => simp [intOf]; omega
        · go_wp2_with fail
          go_quiet (fail)
          go_wp2_with fail
          go_roundw
          case rel => exact ⟨k + 1,by omega,by go_num,by rw [accL_no hlt HX.out (by omega)]; exact own_drewN HOWN.out _,Below.drewN' HBR.out _⟩
          case measure => simp [intOf]; omega
      · have d1 : decide (lo < x) = false := decide_eq_false h1
        have d2 : decide (x > lo) = false := decide_eq_false h1
        go_wp2_with fail
        go_quiet (fail)
        go_wp2_with fail
        go_roundw
        case rel => exact ⟨k + 1,by omega,by go_num,by rw [accL_no hlt HX.out (by omega)]; exact own_drewN HOWN.out _,Below.drewN' HBR.out _⟩
        case measure => simp [intOf]; omega
    · obtain rfl : k = l.length := by omega
      by_cases hlh : lo < hi
      · go_wp2_with (at_builtin; refine wpList_append_own _ rfl _ _ 22 rfl (w.heap.size + 1) 3 i0 (.int .i64 0) 1 8 Tryz.underlying22 hi0 hz0 hz1 hz2 rfl (by decide) _ _ _ rfl (HOWN.out.alloc _) ⟨wr.heap.size,0,none⟩ 1 1 [.int .i64 hi] rfl rfl ?c1 ?c2 ?c3 ?c4 ?c5 ?_)
        case c1 => exact cell_one_new _ _ _
        case c2 => simp [Value.oneCell']
        case c3 => have := HSP.out l.length; simp only [maxLen]; omega
        case c4 => have := HSP.out l.length; omega
        case c5 => simp; omega
        intro v' w1 hown1 hg1 _
        have HO1 := Lib.hid hown1
        have HB1 := Lib.hid ((HBR.out.alloc (by omega) _).grown hg1 (by simp; omega) (ownBlock_ge HOWN.out))
        clear hown1 hg1
        go_wp2_with fail
        go_ret
        refine outInts_mk (base := w.heap.size + 1) (e := 3) ?_ (by omega) (HW1.out.trans (HB1.out.mono (by omega)))
        have e : stopsL l lo hi = accL l lo hi l.length ++ [hi] := by rw [accL_end,stopsL,if_pos hlh]
        rw [e,List.length_append,IV_snoc]; exact HO1.out
      · go_wp2_with fail
        go_ret
        refine outInts_mk (base := w.heap.size + 1) (e := 3) ?_ (by omega) (HW1.out.trans (HBR.out.mono (by omega)))
        have e : stopsL l lo hi = accL l lo hi l.length := by rw [accL_end,stopsL,if_neg (by omega)]; simp
        rw [e]; exact HOWN.out
end Go.Proofs.YtbncpngjclabhaaGreat
/- A copy of a slice, append([]T{}, l...): a new slice of equal elements; nothing old is written. -/
namespace Go.Proofs.YtbncpngjclabhaaGreat
open Go.RowKit

section
variable {P : Program} (w : World)
structure Copied (e : TypeId) (size m : Nat) (news : List Value) (w : World) (A : Option Addr) (c : Nat) (w' : World) : Prop where
  len : m ≤ c
  below : Below w.heap.size w w'
  own : 0 < m → w'.ownsRow w.heap.size e size (.slice A m c) m news
end
end Go.Proofs.YtbncpngjclabhaaGreat
/- The contract of the reference's Copy: an equal table in new memory; nothing old is written. -/
namespace Go.Proofs.YtbncpngjclabhaaGreat
open Go.RowKit

def OwnI (base : Nat) (w : World) (A : Option Addr) (c : Nat) (l : List Int) : Prop := 0 < l.length → w.ownsRow base 3 1 (.slice A l.length c) l.length (IV l)
theorem OwnI.ints {base : Nat} {w : World} {A : Option Addr} {c : Nat} {l : List Int} (h : OwnI base w A c l) : Ints w A l := fun hl => by
  obtain ⟨A',c',e,hI,_⟩ := ints_of_own (h hl)
  cases e
  exact hI hl
theorem grown_of_below {W W' : World} (hb : Below W.heap.size W W') : W.grownBy W' none := ⟨hb.os,hb.tape,hb.output,hb.size,fun k hk _ => hb.block k hk⟩
theorem OwnI.step {base : Nat} {W W' : World} {A : Option Addr} {c : Nat} {l : List Int} {row : Option Nat} (h : OwnI base W A c l) (hg : W.grownBy W' row) (hr : ∀ g cs fz,row = some g → W.heap[g]? = some (.cells cs 3 fz) → False) : OwnI base W' A c l := fun hl => by
  have h1 := h hl
  refine h1.kept hg ?_
  obtain ⟨_,⟨e,_⟩ | ⟨g,cap,cur,e,hb,hgb,_⟩⟩ := h1
  · left; rw [e]; rfl
  · right
    intro e'
    rw [e] at e'
    exact hr g _ _ (by simpa [Value.ownBlock] using e'.symm) hgb
theorem OwnI.below {base : Nat} {W W' : World} {A : Option Addr} {c : Nat} {l : List Int} (h : OwnI base W A c l) (hb : Below W.heap.size W W') : OwnI base W' A c l := h.step (grown_of_below hb) (fun g cs fz e => by cases e)
theorem OwnI.mono {b1 b2 : Nat} {w : World} {A : Option Addr} {c : Nat} {l : List Int} (h : OwnI b1 w A c l) (hb : b2 ≤ b1) : OwnI b2 w A c l := fun hl => by
  obtain ⟨h1,⟨e,h0⟩ | ⟨g,cap,cur,e,hbg,rest⟩⟩ := h hl
  · exact ⟨h1,.inl ⟨e,h0⟩⟩
  · exact ⟨h1,.inr ⟨g,cap,cur,e,by omega,rest⟩⟩
def OwnRows (base : Nat) (w : World) (rs : List Value) (l : List (List Int)) : Prop := rs.length = l.length ∧ ∀ k,k < l.length → ∃ B c,rs[k]? = some (.slice B (l[k]?.getD []).length c) ∧ (l[k]?.getD []).length ≤ c ∧ OwnI base w B c (l[k]?.getD [])
theorem OwnRows.step {base : Nat} {W W' : World} {rs : List Value} {l : List (List Int)} {row : Option Nat} (h : OwnRows base W rs l) (hg : W.grownBy W' row) (hr : ∀ g cs fz,row = some g → W.heap[g]? = some (.cells cs 3 fz) → False) : OwnRows base W' rs l :=
  ⟨h.1,fun k hk => by obtain ⟨B,c,h1,h2,h3⟩ := h.2 k hk; exact ⟨B,c,h1,h2,h3.step hg hr⟩⟩
theorem OwnRows.snoc {base : Nat} {W : World} {rs : List Value} {l : List (List Int)} {r : List Int} {B : Option Addr} {c : Nat} (h : OwnRows base W rs l) (hc : r.length ≤ c) (ho : OwnI base W B c r) : OwnRows base W (rs ++ [.slice B r.length c]) (l ++ [r]) := by
  refine ⟨by simp [h.1],fun k hk => ?_⟩
  rcases Nat.lt_or_ge k l.length with hlt | hge
  · obtain ⟨B',c',h1,h2,h3⟩ := h.2 k hlt
    have e : (l ++ [r])[k]?.getD [] = l[k]?.getD [] := by rw [List.getElem?_append_left hlt]
    rw [e,List.getElem?_append_left (by rw [h.1]; exact hlt)]
    exact ⟨B',c',h1,h2,h3⟩
  · have hk' : k = l.length := by simp at hk; omega
    subst hk'
    have e : (l ++ [r])[l.length]?.getD [] = r := by simp
    rw [e,← h.1]
    exact ⟨B,c,by simp,hc,ho⟩
def MatN (w : World) (A : Option Addr) (l : List (List Int)) : Prop :=
  0 < l.length → ∃ b off,A = some ⟨b,off,none⟩ ∧ b < w.heap.size ∧ ∀ k,k < l.length → ∃ B c,w.cell? ⟨b,off + k,none⟩ = some (.slice B (l[k]?.getD []).length c) ∧ Ints w B (l[k]?.getD []) ∧ (B = none → c = 0)
structure TabN (w : World) (X Y V : Option Addr) (cx cy cv : Nat) (xs ys : List Int) (vs : List (List Int)) : Prop where
  nx : X = none → cx = 0
  ny : Y = none → cy = 0
  mv : MatN w V vs
theorem MatN.below {w w' : World} {A : Option Addr} {l : List (List Int)} (h : MatN w A l) (hb : Below w.heap.size w w') : MatN w' A l := fun hl => by
  obtain ⟨b,off,e,hlt,hc⟩ := h hl
  refine ⟨b,off,e,Nat.lt_of_lt_of_le hlt hb.size,fun k hk => ?_⟩
  obtain ⟨B,c,h1,h2,h3⟩ := hc k hk
  exact ⟨B,c,(hb.cell (p := ⟨b,off + k,none⟩) hlt).trans h1,h2.below hb,h3⟩
theorem TabN.below {w w' : World} {X Y V : Option Addr} {cx cy cv : Nat} {xs ys : List Int} {vs : List (List Int)} (h : TabN w X Y V cx cy cv xs ys vs) (hb : Below w.heap.size w w') : TabN w' X Y V cx cy cv xs ys vs := ⟨h.nx,h.ny,h.mv.below hb⟩
theorem bel_step {W0 P w5 : World} (h : Below W0.heap.size W0 P) (h' : Below P.heap.size P w5) : Below W0.heap.size W0 w5 := h.trans (h'.mono h.size)
end Go.Proofs.YtbncpngjclabhaaGreat
/- The reference's bound: it is the program's. -/
namespace Go.Proofs.YtbncpngjclabhaaGreat
open Go.RowKit

theorem cmpV_self (p : Pt) : cmpV p.n p.d p.n p.d = 0 := by
  have h := cmpV_sign (n := p.n) (m := p.n) p.ok.1 p.ok.1
  omega
theorem extrE_dup (p : Pt) (ps : List Pt) : extrE (p :: p :: ps) = extrE (p :: ps) := by
  unfold extrE
  simp only [List.foldl_cons]
  congr 1
  show stepE (some (p,p)) p = some (p,p)
  rw [stepE_some,cmpV_self]
  simp
theorem pts_cons (xs ys : List Int) (vs : List (List Int)) (x y : Int × Int) : ∃ ps,pts xs ys vs x y = ptAt xs ys vs x.1 y.1 :: ps := by
  unfold pts allPts stopsL rowPts
  exact ⟨_,rfl⟩
theorem extrE_first (xs ys : List Int) (vs : List (List Int)) (x y : Int × Int) : extrE (ptAt xs ys vs x.1 y.1 :: pts xs ys vs x y) = extrE (pts xs ys vs x y) := by
  obtain ⟨ps,h⟩ := pts_cons xs ys vs x y
  rw [h,extrE_dup]
theorem ptAt_is {xs ys : List Int} {vs : List (List Int)} {x y : Int} (hT : Tbl xs ys vs) (hx : OnAx xs x) (hy : OnAx ys y) :
    (ptAt xs ys vs x y).n = atN xs ys vs x y ∧ (ptAt xs ys vs x y).d = atD xs ys x y ∧ (ptAt xs ys vs x y).x = x ∧ (ptAt xs ys vs x y).y = y := by
  unfold ptAt mkPt
  rw [dif_pos (at_bd hT hx hy)]
  exact ⟨rfl,rfl,rfl,rfl⟩
theorem ptAt_val {xs ys : List Int} {vs : List (List Int)} {x y : Int} (hT : Tbl xs ys vs) (hx : OnAx xs x) (hy : OnAx ys y) :
    valN xs ys vs x y / valD xs ys x y = (ptAt xs ys vs x y).n / (ptAt xs ys vs x y).d ∧ -(-valN xs ys vs x y / valD xs ys x y) = -(-(ptAt xs ys vs x y).n / (ptAt xs ys vs x y).d) := by
  obtain ⟨h1,h2,_,_⟩ := ptAt_is hT hx hy
  rw [h1,h2]
  have e := frac_eq (x := x) (y := y) hT
  have b1 := (at_bd hT hx hy).1
  have b2 := (val_bd hT hx hy).1
  exact ⟨(floor_cross b1 b2 e).symm,(ceil_cross b1 b2 e).symm⟩
theorem floor_mono {n d m f : Int} (hd : 1 ≤ d) (hf : 1 ≤ f) (h : n * f ≤ m * d) : n / d ≤ m / f := by
  have h1 : n * f / (d * f) = n / d := Int.mul_ediv_mul_of_pos_left n d (by omega)
  have h2 : m * d / (f * d) = m / f := Int.mul_ediv_mul_of_pos_left m f (by omega)
  rw [← h1,← h2,Int.mul_comm f d]
  exact Int.ediv_le_ediv (Int.mul_pos (by omega) (by omega)) h
theorem step_low (l p : Pt) : mn (l.n / l.d) (p.n / p.d) = (if cmpV p.n p.d l.n l.d < 0 then p else l).n / (if cmpV p.n p.d l.n l.d < 0 then p else l).d := by
  have h := (cmpV_sign (n := p.n) (m := l.n) p.ok.1 l.ok.1).1
  rw [mn_eq]
  by_cases c : cmpV p.n p.d l.n l.d < 0
  · rw [if_pos c]
    have := floor_mono (n := p.n) (m := l.n) p.ok.1 l.ok.1 (by have := h.1 c; omega)
    omega
  · rw [if_neg c]
    have := floor_mono (n := l.n) (m := p.n) l.ok.1 p.ok.1 (by have := fun q => c (h.2 q); omega)
    omega
theorem step_top (m p : Pt) : mx (-(-m.n / m.d)) (-(-p.n / p.d)) = -(-(if 0 < cmpV p.n p.d m.n m.d then p else m).n / (if 0 < cmpV p.n p.d m.n m.d then p else m).d) := by
  have h := (cmpV_sign (n := p.n) (m := m.n) p.ok.1 m.ok.1).2
  rw [mx_eq]
  by_cases c : 0 < cmpV p.n p.d m.n m.d
  · rw [if_pos c]
    have := floor_mono (n := -p.n) (m := -m.n) p.ok.1 m.ok.1 (by have := h.1 c; rw [Int.neg_mul,Int.neg_mul]; omega)
    omega
  · rw [if_neg c]
    have := floor_mono (n := -m.n) (m := -p.n) m.ok.1 p.ok.1 (by have := fun q => c (h.2 q); rw [Int.neg_mul,Int.neg_mul]; omega)
    omega
end Go.Proofs.YtbncpngjclabhaaGreat
/- The walk of the reference's bound. -/
namespace Go.Proofs.YtbncpngjclabhaaGreat
open Go.RowKit

def BdMid (sx sy : List Int) (W0 : World) (s7 s8 : Value) (wx : World) : Prop := ∃ A B ca cb,s7 = .slice A sx.length ca ∧ s8 = .slice B sy.length cb ∧ Ints wx A sx ∧ Ints wx B sy ∧ Below W0.heap.size W0 wx
def BdSt (p0 : Pt) (ps : List Pt) (B : Nat) (W3 wr : World) : Prop := ∃ l m,extrE (p0 :: ps) = some (l,m) ∧ wr.heap[B]? = some (.cells #[.int .i64 (l.n / l.d),.int .i64 (-(-m.n / m.d))] 31) ∧ Below W3.heap.size W3 wr
theorem run_min2 {P : Program} (w : World) (ts : Array TypeId) (t : TypeId) (a b : Int) : (Builtin.min_ ts t #[.int .i64 a,.int .i64 b]).run P w = .ok (.int .i64 (mn a b)) w := by
  simp [Builtin.min_,Builtin.min2,mn]
  try (split <;> rfl)
theorem run_max2 {P : Program} (w : World) (ts : Array TypeId) (t : TypeId) (a b : Int) : (Builtin.max_ ts t #[.int .i64 a,.int .i64 b]).run P w = .ok (.int .i64 (mx a b)) w := by
  simp [Builtin.max_,Builtin.max2,mx]
  try (split <;> rfl)
theorem rbnd_any (xs ys : List Int) (vs : List (List Int)) (X Y V : Option Addr) (cx cy cv : Nat) (x y : Int × Int) (w : World) (hO : OnT xs ys vs x y) (hR : TabR w X Y V cx cy cv xs ys vs) :
   Calls Tryz.prog 123 #[.agg #[.slice X xs.length cx,.slice Y ys.length cy,.slice V vs.length cv],.agg #[.int .i64 x.1,.int .i64 x.2],.agg #[.int .i64 y.1,.int .i64 y.2]] w fun e w' => e = .returned (.agg #[.int .i64 (bnd xs ys vs x y).1,.int .i64 (bnd xs ys vs x y).2]) ∧ Below w.heap.size w w' := by
  obtain ⟨xl,xh⟩ := x
  obtain ⟨yl,yh⟩ := y
  show Calls Tryz.prog 123 #[.agg #[.slice X xs.length cx,.slice Y ys.length cy,.slice V vs.length cv],.agg #[.int .i64 xl,.int .i64 xh],.agg #[.int .i64 yl,.int .i64 yh]] w _
  have HT := Lib.hid hO.t
  have hx12 := hO.t.ax.twelve
  have hy12 := hO.t.ay.twelve
  have HOX : Hid (∀ a ∈ stopsL xs xl xh,OnAx xs a) := fun a ha => OnAx_stops hO.x1 hO.x2 hO.x3 ha
  have HOY : Hid (∀ a ∈ stopsL ys yl yh,OnAx ys a) := fun a ha => OnAx_stops hO.y1 hO.y2 hO.y3 ha
  have lx := stopsL_len xs xl xh
  have ly := stopsL_len ys yl yh
  have HX0 : Hid ((stopsL xs xl xh)[0]?.getD 0 = xl ∧ 1 ≤ (stopsL xs xl xh).length) := by unfold Hid stopsL; simp
  have HY0 : Hid ((stopsL ys yl yh)[0]?.getD 0 = yl ∧ 1 ≤ (stopsL ys yl yh).length) := by unfold Hid stopsL; simp
  have HPT : Hid (pts xs ys vs (xl,xh) (yl,yh) = allPts xs ys vs (stopsL xs xl xh) (stopsL ys yl yh)) := rfl
  have HBE : Hid (∀ l m,extrE (ptAt xs ys vs xl yl :: pts xs ys vs (xl,xh) (yl,yh)) = some (l,m) → bnd xs ys vs (xl,xh) (yl,yh) = (l.n / l.d, -(-m.n / m.d))) := fun l m h => bnd_eq ((extrE_first xs ys vs (xl,xh) (yl,yh)).symm.trans h)
  obtain ⟨W0,hW0⟩ : ∃ W0,((((w.alloc (.cells #[.slice X xs.length cx,.slice Y ys.length cy,.slice V vs.length cv] 25)).alloc (.cells #[.int .i64 xl,.int .i64 xh] 31)).alloc (.cells #[.int .i64 yl,.int .i64 yh] 31)).alloc (.cells #[.int .i64 0,.int .i64 0] 31)) = W0 := ⟨_,rfl⟩
  have HB : Hid (Below w.heap.size w W0) := by
    unfold Hid; rw [← hW0]
    repeat (first | exact Below.refl _ _ | refine Below.alloc ?_ (by simp <;> omega) _)
  have ha : W0.heap[w.heap.size]? = some (.cells #[.slice X xs.length cx,.slice Y ys.length cy,.slice V vs.length cv] 25) := by
    rw [← hW0]; simp only [heap_alloc_at,World.size_alloc]; repeat (first | rw [if_pos trivial] | rw [if_neg (by omega)])
  have hb : W0.heap[w.heap.size + 1]? = some (.cells #[.int .i64 xl,.int .i64 xh] 31) := by
    rw [← hW0]; simp only [heap_alloc_at,World.size_alloc]; repeat (first | rw [if_pos trivial] | rw [if_neg (by omega)])
  have hc : W0.heap[w.heap.size + 1 + 1]? = some (.cells #[.int .i64 yl,.int .i64 yh] 31) := by
    rw [← hW0]; simp only [heap_alloc_at,World.size_alloc]; repeat (first | rw [if_pos trivial] | rw [if_neg (by omega)])
  have hd : W0.heap[w.heap.size + 1 + 1 + 1]? = some (.cells #[.int .i64 0,.int .i64 0] 31) := by
    rw [← hW0]; simp only [heap_alloc_at,World.size_alloc]; repeat (first | rw [if_pos trivial] | rw [if_neg (by omega)])
  obtain ⟨⟨c0,c1,c2⟩,_⟩ := cells3 ha
  obtain ⟨⟨p0,p1⟩,_⟩ := cells2 hb
  obtain ⟨⟨q0,q1⟩,_⟩ := cells2 hc
  obtain ⟨⟨r0,r1⟩,f0,f1⟩ := cells2 hd
  have z3 := blk_lt hd
  have HR := Lib.hid (hR.below HB.out)
  have HW0 := Lib.hid hW0
  clear hW0 ha hb hc hd hR hO
  generalize hsx : stopsL xs xl xh = sx at *
  generalize hsy : stopsL ys yl yh = sy at *
  have HSX := Lib.hid hsx
  have HSY := Lib.hid hsy
  clear hsx hsy
  go_enter Tryz.func123,Tryz.ntmps123
  go_upto_region 1 with fail
  rw [HW0.out]
  go_cut [7,8] (fun s7 s8 wx => BdMid sx sy W0 s7 s8 wx)
  case first =>
    have HBc := Lib.hid (Below.refl W0.heap.size W0)
    go_region_held3 (fun w' => w'.cell? ⟨w.heap.size,0,none⟩ = some (.slice X xs.length cx) ∧ w'.cell? ⟨w.heap.size,1,none⟩ = some (.slice Y ys.length cy) ∧ w'.cell? ⟨w.heap.size + 1,0,none⟩ = some (.int .i64 xl) ∧ w'.cell? ⟨w.heap.size + 1,1,none⟩ = some (.int .i64 xh) ∧ w'.cell? ⟨w.heap.size + 1 + 1,0,none⟩ = some (.int .i64 yl) ∧ w'.cell? ⟨w.heap.size + 1 + 1,1,none⟩ = some (.int .i64 yh)) (refine ⟨cell_b' (W := W0) ?_ c0,cell_b' (W := W0) ?_ c1,cell_b' (W := W0) ?_ p0,cell_b' (W := W0) ?_ p1,cell_b' (W := W0) ?_ q0,cell_b' (W := W0) ?_ q1⟩ <;> (repeat (first | with_reducible exact HBc.out | with_reducible refine Below.alloc ?_ (by have := HBc.out.size; simp <;> omega) _ | with_reducible refine Below.drew ?_ | with_reducible refine Below.setCell ?_ (by have := HBc.out.size; simp <;> omega) _)))
      (first | (go_at_call 128; have hia := HIA.out; refine (rcorners_any Y ys cy yl yh _ (by omega) (HR.out.hY.below (by (repeat (first | with_reducible exact HBc.out | with_reducible refine Below.alloc ?_ (by have := HBc.out.size; simp <;> omega) _ | with_reducible refine Below.drew ?_ | with_reducible refine Below.setCell ?_ (by have := HBc.out.size; simp <;> omega) _))))).mono ?_; rw [HSY.out]; rintro e w5 ⟨B,cb,rfl,hI,_,_,hb5⟩; have HIB := Lib.hid hI; replace HIA := Lib.hid (hia.below hb5); have hbw := bel_step (W0 := W0) (by (repeat (first | with_reducible exact HBc.out | with_reducible refine Below.alloc ?_ (by have := HBc.out.size; simp <;> omega) _ | with_reducible refine Below.drew ?_ | with_reducible refine Below.setCell ?_ (by have := HBc.out.size; simp <;> omega) _))) hb5; replace HBc := Lib.hid hbw; clear hb5 hbw hI hia) | (go_at_call 128; refine (rcorners_any X xs cx xl xh _ (by omega) (HR.out.hX.below (by (repeat (first | with_reducible exact HBc.out | with_reducible refine Below.alloc ?_ (by have := HBc.out.size; simp <;> omega) _ | with_reducible refine Below.drew ?_ | with_reducible refine Below.setCell ?_ (by have := HBc.out.size; simp <;> omega) _))))).mono ?_; rw [HSX.out]; rintro e w5 ⟨A,ca,rfl,hI,_,_,hb5⟩; have HIA := Lib.hid hI; have hbw := bel_step (W0 := W0) (by (repeat (first | with_reducible exact HBc.out | with_reducible refine Below.alloc ?_ (by have := HBc.out.size; simp <;> omega) _ | with_reducible refine Below.drew ?_ | with_reducible refine Below.setCell ?_ (by have := HBc.out.size; simp <;> omega) _))) hb5; replace HBc := Lib.hid hbw; clear hb5 hbw hI))
    all_goals
      go_wp2_with fail
      go_meet
      exact ⟨A,B,ca,cb,rfl,rfl,HIA.out,HIB.out,HBc.out⟩
  case rest =>
    obtain ⟨A,B,ca,cb,rfl,rfl,hIA,hIB,hbx⟩ := hcut
    obtain ⟨w1,rfl⟩ : ∃ w1 : World,w1 = wc := ⟨_,rfl⟩
    replace c0 := cell_b' hbx c0
    replace c1 := cell_b' hbx c1
    replace c2 := cell_b' hbx c2
    replace f0 := froz_b hbx r0 f0
    replace f1 := froz_b hbx r1 f1
    replace r0 := cell_b' hbx r0
    replace r1 := cell_b' hbx r1
    replace z3 := Nat.lt_of_lt_of_le z3 hbx.size
    replace HR := Lib.hid (HR.out.below hbx)
    replace HB := Lib.hid (HB.out.trans (hbx.mono HB.out.size))
    have HIA := Lib.hid hIA
    have HIB := Lib.hid hIB
    have lx1 := HX0.out.2
    have ly1 := HY0.out.2
    obtain ⟨ba,oa,ea,hba,hca⟩ := hIA (by omega)
    obtain ⟨bb,ob,eb,hbb,hcb⟩ := hIB (by omega)
    have a0 := hca 0 (by omega)
    have b0 := hcb 0 (by omega)
    simp only [Nat.add_zero] at a0 b0
    rw [HX0.out.1] at a0
    rw [HY0.out.1] at b0
    subst ea eb
    have hox := HOX.out xl (by rw [← HX0.out.1]; have := HX0.out.2; simp [show 0 < sx.length by omega])
    have hoy := HOY.out yl (by rw [← HY0.out.1]; have := HY0.out.2; simp [show 0 < sy.length by omega])
    have t1 : (0 : Int) < (sx.length : Int) := by omega
    have t2 : (0 : Int) < (sy.length : Int) := by omega
    have t3 : 0 < sx.length := by omega
    have t4 : 0 < sy.length := by omega
    clear hbx hca hcb p0 p1 q0 q1 hIA hIB
    have HP0 := Lib.hid (ptAt_val HT.out hox hoy)
    obtain ⟨vd1,vd2,vn1,vn2⟩ := val_bd HT.out hox hoy
    have HOn := Lib.hid (And.intro hox hoy)
    have HBc := Lib.hid (Below.refl w1.heap.size w1)
    clear hox hoy
    go_wp2_with fail
    go_region_held3 (fun w' => w'.cell? ⟨w.heap.size,0,none⟩ = some (.slice X xs.length cx) ∧ w'.cell? ⟨w.heap.size,1,none⟩ = some (.slice Y ys.length cy) ∧ w'.cell? ⟨w.heap.size,2,none⟩ = some (.slice V vs.length cv) ∧ w'.cell? ⟨ba,oa,none⟩ = some (.int .i64 xl) ∧ w'.cell? ⟨bb,ob,none⟩ = some (.int .i64 yl)) (refine ⟨cell_b' (W := w1) ?_ c0,cell_b' (W := w1) ?_ c1,cell_b' (W := w1) ?_ c2,cell_b' (W := w1) ?_ a0,cell_b' (W := w1) ?_ b0⟩ <;> (repeat (first | with_reducible exact HBc.out | with_reducible refine Below.alloc ?_ (by have := HBc.out.size; simp <;> omega) _ | with_reducible refine Below.drew ?_ | with_reducible refine Below.setCell ?_ (by have := HBc.out.size; simp <;> omega) _)))
      (first | (go_at_call 129; refine (value_any xs ys vs X Y V cx cy cv xl yl _ HT.out (HR.out.below (by (repeat (first | with_reducible exact HBc.out | with_reducible refine Below.alloc ?_ (by have := HBc.out.size; simp <;> omega) _ | with_reducible refine Below.drew ?_ | with_reducible refine Below.setCell ?_ (by have := HBc.out.size; simp <;> omega) _)))) HOn.out.1 HOn.out.2).mono ?_; rintro e w2 ⟨rfl,hb2⟩; have hbw := bel_step (W0 := w1) (by (repeat (first | with_reducible exact HBc.out | with_reducible refine Below.alloc ?_ (by have := HBc.out.size; simp <;> omega) _ | with_reducible refine Below.drew ?_ | with_reducible refine Below.setCell ?_ (by have := HBc.out.size; simp <;> omega) _))) hb2; replace HBc := Lib.hid hbw; clear hb2 hbw))
    generalize valN xs ys vs xl yl = nn at *
    generalize valD xs ys xl yl = dd at *
    have hb2 := HBc.out
    replace c0 := cell_b' hb2 c0
    replace c1 := cell_b' hb2 c1
    replace c2 := cell_b' hb2 c2
    replace f0 := froz_b hb2 r0 f0
    replace f1 := froz_b hb2 r1 f1
    replace r0 := cell_b' hb2 r0
    replace r1 := cell_b' hb2 r1
    replace z3 := Nat.lt_of_lt_of_le z3 hb2.size
    replace HR := Lib.hid (HR.out.below hb2)
    replace HIA := Lib.hid (HIA.out.below hb2)
    replace HIB := Lib.hid (HIB.out.below hb2)
    replace HB := Lib.hid (HB.out.trans (hb2.mono HB.out.size))
    clear hb2 HBc a0 b0
    go_wp2_with fail
    refine (rfloor_any nn dd _ (by omega) (by omega) (by omega) (by omega)).mono ?_
    rintro e w' ⟨rfl,rfl⟩
    go_wp2_with fail
    refine (rceil_any nn dd _ (by omega) (by omega) (by omega) (by omega)).mono ?_
    rintro e w' ⟨rfl,rfl⟩
    rw [HP0.out.1,HP0.out.2]
    generalize hpp : ptAt xs ys vs xl yl = pp at *
    have HPP := Lib.hid hpp
    obtain ⟨w3,rfl⟩ : ∃ w3 : World,w3 = w' := ⟨_,rfl⟩
    clear hpp HP0 HOn vd1 vd2 vn1 vn2
    go_wp2_with fail
    go_loopw [9,10,12,13] (fun _ _ i _ wr => ∃ a : Nat,a ≤ sx.length ∧ i = .int .i64 a ∧ BdSt pp (donePts xs ys vs sx sy a 0) w3.heap.size w3 wr) (fun _ _ i _ _ => sx.length - (intOf i).toNat)
    case atStart => exact ⟨0,by omega,rfl,pp,pp,by rw [done_zero]; rfl,blk_new _ _,(Below.refl _ _).alloc (Nat.le_refl _) _⟩
    case round =>
      obtain ⟨a,ha,rfl,l,m,hE,hbk,hbr⟩ := hrel
      obtain ⟨wo,rfl⟩ : ∃ wo : World,wo = wr := ⟨_,rfl⟩
      have HE := Lib.hid hE
      have HBR := Lib.hid hbr
      have HBK := Lib.hid hbk
      clear hE hbk hbr
      by_cases hlt : a < sx.length
      · go_wp2_with fail
        go_loopw [9,10,13] (fun _ _ k wq => ∃ b : Nat,b ≤ sy.length ∧ k = .int .i64 b ∧ BdSt pp (donePts xs ys vs sx sy a b) w3.heap.size w3 wq) (fun _ _ k _ => sy.length - (intOf k).toNat)
        case atStart => exact ⟨0,by omega,rfl,l,m,HE.out,HBK.out,HBR.out⟩
        case round =>
          obtain ⟨b,hb,rfl,l2,m2,hE2,hbk2,hbq⟩ := hrel
          obtain ⟨wp,rfl⟩ : ∃ wp : World,wp = wr := ⟨_,rfl⟩
          have HE2 := Lib.hid hE2
          have HBQ := Lib.hid hbq
          have HBK2 := Lib.hid hbk2
          by_cases hlt2 : b < sy.length
          · replace c0 := cell_b' hbq c0
            replace c1 := cell_b' hbq c1
            replace c2 := cell_b' hbq c2
            obtain ⟨ba2,oa2,ea,hba2,hca⟩ := (HIA.out.below hbq) (by omega)
            obtain ⟨bb2,ob2,eb,hbb2,hcb⟩ := (HIB.out.below hbq) (by omega)
            cases ea
            cases eb
            have a0 := hca a (by omega)
            have b0 := hcb b (by omega)
            have hox := HOX.out (sx[a]?.getD 0) (by simp [hlt])
            have hoy := HOY.out (sy[b]?.getD 0) (by simp [hlt2])
            have HD := Lib.hid (done_succ xs ys vs sx sy a b hlt2)
            have HPV := Lib.hid (ptAt_val HT.out hox hoy)
            obtain ⟨vd1,vd2,vn1,vn2⟩ := val_bd HT.out hox hoy
            generalize hxa : sx[a]?.getD 0 = xa at a0 hox vd1 vd2 vn1 vn2 HD HPV
            generalize hyb : sy[b]?.getD 0 = yb at b0 hoy vd1 vd2 vn1 vn2 HD HPV
            have HOn := Lib.hid (And.intro hox hoy)
            have HRq := Lib.hid (HR.out.below hbq)
            have t5 : (a : Int) < (sx.length : Int) := by omega
            have t6 : (b : Int) < (sy.length : Int) := by omega
            have t7 : (0 : Int) ≤ (a : Int) := by omega
            have t8 : (0 : Int) ≤ (b : Int) := by omega
            have HBc := Lib.hid (Below.refl wp.heap.size wp)
            clear hxa hyb hox hoy hca hcb hbq hbk2 hE2 r0 r1 f0 f1
            go_wp2_with fail
            go_region_held3 (fun w' => w'.cell? ⟨w.heap.size,0,none⟩ = some (.slice X xs.length cx) ∧ w'.cell? ⟨w.heap.size,1,none⟩ = some (.slice Y ys.length cy) ∧ w'.cell? ⟨w.heap.size,2,none⟩ = some (.slice V vs.length cv) ∧ w'.cell? ⟨ba,oa + a,none⟩ = some (.int .i64 xa) ∧ w'.cell? ⟨bb,ob + b,none⟩ = some (.int .i64 yb)) (refine ⟨cell_b' (W := wp) ?_ c0,cell_b' (W := wp) ?_ c1,cell_b' (W := wp) ?_ c2,cell_b' (W := wp) ?_ a0,cell_b' (W := wp) ?_ b0⟩ <;> (repeat (first | with_reducible exact HBc.out | with_reducible refine Below.alloc ?_ (by have := HBc.out.size; simp <;> omega) _ | with_reducible refine Below.drew ?_ | with_reducible refine Below.setCell ?_ (by have := HBc.out.size; simp <;> omega) _)))
              (first | (go_at_call 129; refine (value_any xs ys vs X Y V cx cy cv xa yb _ HT.out (HRq.out.below (by (repeat (first | with_reducible exact HBc.out | with_reducible refine Below.alloc ?_ (by have := HBc.out.size; simp <;> omega) _ | with_reducible refine Below.drew ?_ | with_reducible refine Below.setCell ?_ (by have := HBc.out.size; simp <;> omega) _)))) HOn.out.1 HOn.out.2).mono ?_; rintro e w5 ⟨rfl,hb5⟩; have hbw := bel_step (W0 := wp) (by (repeat (first | with_reducible exact HBc.out | with_reducible refine Below.alloc ?_ (by have := HBc.out.size; simp <;> omega) _ | with_reducible refine Below.drew ?_ | with_reducible refine Below.setCell ?_ (by have := HBc.out.size; simp <;> omega) _))) hb5; replace HBc := Lib.hid hbw; clear hb5 hbw))
            generalize valN xs ys vs xa yb = nn at *
            generalize valD xs ys xa yb = dd at *
            generalize ptAt xs ys vs xa yb = pn at *
            have hbk5 := blk HBc.out HBK2.out
            have HB5 := Lib.hid (HBQ.out.trans (HBc.out.mono HBQ.out.size))
            obtain ⟨⟨o0,o1⟩,g0,g1⟩ := cells2 hbk5
            have HBK5 := Lib.hid hbk5
            have HML := Lib.hid (run_min2 (P := Tryz.prog))
            have hmin := fun (w : World) => run_min2 (P := Tryz.prog) w #[3,3] 3 (l2.n / l2.d) (nn / dd)
            have hmax := fun (w : World) => run_max2 (P := Tryz.prog) w #[3,3] 3 (-(-m2.n / m2.d)) (-(-nn / dd))
            clear hbk5 c0 c1 c2 a0 b0 HBc HBQ HBK2 HML
            go_wp2_with fail
            refine wp_region_tail 7 (by kernel_rfl) (by kernel_rfl) ?_
            simp only [List.take_succ_cons,List.take_zero,List.drop_succ_cons,List.drop_zero]
            iterate 4 still_step
            still_call (rfloor_any _ _ _ (by omega) (by omega) (by omega) (by omega))
            iterate 2 still_step
            refine wpStill_nil ?_
            go_wp2_with fail
            refine wp_region_tail 7 (by kernel_rfl) (by kernel_rfl) ?_
            simp only [List.take_succ_cons,List.take_zero,List.drop_succ_cons,List.drop_zero]
            iterate 4 still_step
            still_call (rceil_any _ _ _ (by omega) (by omega) (by omega) (by omega))
            iterate 2 still_step
            refine wpStill_nil ?_
            go_wp2_with fail
            have e1 := step_low l2 pn
            rw [← HPV.out.1] at e1
            have e2 := step_top m2 pn
            rw [← HPV.out.2] at e2
            go_roundw
            case rel =>
              refine ⟨b + 1,by omega,by go_num,(if cmpV pn.n pn.d l2.n l2.d < 0 then pn else l2),(if 0 < cmpV pn.n pn.d m2.n m2.d then pn else m2),by rw [HD.out,← List.cons_append,extrE_snoc,HE2.out,stepE_some],?_,?_⟩
              · rw [← e1,← e2]; exact heap_set_same 1 _ (heap_set_same 0 _ HBK5.out)
              · exact ((HB5.out.setCell (p := ⟨w3.heap.size,0,none⟩) (Nat.le_refl _) _).setCell (p := ⟨w3.heap.size,1,none⟩) (Nat.le_refl _) _).drew.drew
            case measure => simp [intOf]; omega
          · obtain rfl : b = sy.length := by omega
            have HDR := Lib.hid (done_row xs ys vs sx sy a hlt)
            go_wp2_with fail
            go_roundw
            case rel => exact ⟨a + 1,by omega,by go_num,l2,m2,by rw [← HDR.out]; exact HE2.out,HBK2.out,HBQ.out⟩
            case measure => simp [intOf]; omega
      · obtain rfl : a = sx.length := by omega
        have hbr := HBR.out
        obtain ⟨⟨o0,o1⟩,g0,g1⟩ := cells2 HBK.out
        replace f0 := froz_b hbr r0 f0
        replace f1 := froz_b hbr r1 f1
        replace r0 := cell_b' hbr r0
        replace r1 := cell_b' hbr r1
        have HRES : Hid (bnd xs ys vs (xl,xh) (yl,yh) = (l.n / l.d, -(-m.n / m.d))) := HBE.out l m (by rw [HPT.out,← done_all]; exact HE.out)
        clear hbr c0 c1 c2
        go_wp2_with fail
        refine bodyPost_ret (v := .agg #[.int .i64 (l.n / l.d),.int .i64 (-(-m.n / m.d))]) (by simp [results,Tryz.results123,go_sem,r0,r1]) rfl ⟨by rw [HRES.out],?_⟩
        exact ((HB.out.trans (HBR.out.mono HB.out.size)).setCell (p := ⟨w.heap.size + 1 + 1 + 1,0,none⟩) (by show _ ≤ _ + 1 + 1 + 1; omega) _).setCell (p := ⟨w.heap.size + 1 + 1 + 1,1,none⟩) (by show _ ≤ _ + 1 + 1 + 1; omega) _
end Go.Proofs.YtbncpngjclabhaaGreat
/- The walks of the reference's Bound and Worst. -/
namespace Go.Proofs.YtbncpngjclabhaaGreat
open Go.RowKit

theorem rboundF_any (xs ys : List Int) (vs : List (List Int)) (X Y V : Option Addr) (cx cy cv : Nat) (x y : Int × Int) (w : World) (hS : TSm xs ys vs) (hR : TabR w X Y V cx cy cv xs ys vs) :
   Calls Tryz.prog 108 #[.agg #[.slice X xs.length cx,.slice Y ys.length cy,.slice V vs.length cv],.agg #[.int .i64 x.1,.int .i64 x.2],.agg #[.int .i64 y.1,.int .i64 y.2]] w fun e w' =>
     e = .returned (.tuple #[.agg #[.int .i64 (boundR xs ys vs x y).1.1,.int .i64 (boundR xs ys vs x y).1.2],.int .i64 (boundR xs ys vs x y).2]) ∧ Below w.heap.size w w' := by
  obtain ⟨xl,xh⟩ := x
  obtain ⟨yl,yh⟩ := y
  show Calls Tryz.prog 108 #[.agg #[.slice X xs.length cx,.slice Y ys.length cy,.slice V vs.length cv],.agg #[.int .i64 xl,.int .i64 xh],.agg #[.int .i64 yl,.int .i64 yh]] w _
  have HS := Lib.hid hS
  obtain ⟨W0,hW0⟩ : ∃ W0,((((w.alloc (.cells #[.slice X xs.length cx,.slice Y ys.length cy,.slice V vs.length cv] 25)).alloc (.cells #[.int .i64 xl,.int .i64 xh] 31)).alloc (.cells #[.int .i64 yl,.int .i64 yh] 31)).alloc (.cells #[.int .i64 0,.int .i64 0] 31)) = W0 := ⟨_,rfl⟩
  have HB : Hid (Below w.heap.size w W0) := by
    unfold Hid; rw [← hW0]
    repeat (first | exact Below.refl _ _ | refine Below.alloc ?_ (by simp <;> omega) _)
  have ha : W0.heap[w.heap.size]? = some (.cells #[.slice X xs.length cx,.slice Y ys.length cy,.slice V vs.length cv] 25) := by
    rw [← hW0]; simp only [heap_alloc_at,World.size_alloc]; repeat (first | rw [if_pos trivial] | rw [if_neg (by omega)])
  have hb : W0.heap[w.heap.size + 1]? = some (.cells #[.int .i64 xl,.int .i64 xh] 31) := by
    rw [← hW0]; simp only [heap_alloc_at,World.size_alloc]; repeat (first | rw [if_pos trivial] | rw [if_neg (by omega)])
  have hc : W0.heap[w.heap.size + 1 + 1]? = some (.cells #[.int .i64 yl,.int .i64 yh] 31) := by
    rw [← hW0]; simp only [heap_alloc_at,World.size_alloc]; repeat (first | rw [if_pos trivial] | rw [if_neg (by omega)])
  have hd : W0.heap[w.heap.size + 1 + 1 + 1]? = some (.cells #[.int .i64 0,.int .i64 0] 31) := by
    rw [← hW0]; simp only [heap_alloc_at,World.size_alloc]; repeat (first | rw [if_pos trivial] | rw [if_neg (by omega)])
  obtain ⟨⟨c0,c1,c2⟩,_⟩ := cells3 ha
  obtain ⟨⟨p0,p1⟩,_⟩ := cells2 hb
  obtain ⟨⟨q0,q1⟩,_⟩ := cells2 hc
  obtain ⟨⟨r0,r1⟩,f0,f1⟩ := cells2 hd
  have HR := Lib.hid (hR.below HB.out)
  have HW0 := Lib.hid hW0
  clear hW0 ha hb hc hd hR hS
  go_enter Tryz.func108,Tryz.ntmps108
  go_wp2_with fail
  rw [HW0.out]
  refine (rcb_any xs ys vs X Y V cx cy cv (xl,xh) (yl,yh) _ HS.out HR.out).mono ?_
  rintro e w1 ⟨rfl,hb1⟩
  replace c0 := cell_b hb1 c0
  replace c1 := cell_b hb1 c1
  replace c2 := cell_b hb1 c2
  replace p0 := cell_b hb1 p0
  replace p1 := cell_b hb1 p1
  replace q0 := cell_b hb1 q0
  replace q1 := cell_b hb1 q1
  replace f0 := froz_b hb1 r0 f0
  replace f1 := froz_b hb1 r1 f1
  replace r0 := cell_b hb1 r0
  replace r1 := cell_b hb1 r1
  replace HR := Lib.hid (HR.out.below hb1)
  replace HB := Lib.hid (HB.out.trans (hb1.mono HB.out.size))
  clear hb1
  by_cases he : (cpErr xs ys vs (xl,xh) (yl,yh) != 0) = true
  · have R : Hid (boundR xs ys vs (xl,xh) (yl,yh) = ((0,0),cpErr xs ys vs (xl,xh) (yl,yh))) := by unfold Hid boundR; rw [if_pos he]
    generalize cpErr xs ys vs (xl,xh) (yl,yh) = ce at *
    go_wp2_with fail
    refine bodyPost_ret (v := .tuple #[.agg #[.int .i64 0,.int .i64 0],.int .i64 ce]) (by simp [results,Tryz.results108,go_sem,r0,r1]) rfl ⟨by rw [R.out],?_⟩
    exact (HB.out.setCell (p := ⟨w.heap.size + 1 + 1 + 1,0,none⟩) (by show _ ≤ _ + 1 + 1 + 1; omega) _).setCell (p := ⟨w.heap.size + 1 + 1 + 1,1,none⟩) (by show _ ≤ _ + 1 + 1 + 1; omega) _
  · have he' : (cpErr xs ys vs (xl,xh) (yl,yh) != 0) = false := by simpa using he
    have h0 : cpErr xs ys vs (xl,xh) (yl,yh) = 0 := by simpa using he'
    have HO := Lib.hid (cp_zero h0)
    have R : Hid (boundR xs ys vs (xl,xh) (yl,yh) = (bnd xs ys vs (xl,xh) (yl,yh),0)) := by unfold Hid boundR; rw [if_neg he]
    rw [h0]
    clear he he' h0
    go_wp2_with fail
    refine (rbnd_any xs ys vs X Y V cx cy cv (xl,xh) (yl,yh) _ HO.out HR.out).mono ?_
    rintro e w2 ⟨rfl,hb2⟩
    replace f0 := froz_b hb2 r0 f0
    replace f1 := froz_b hb2 r1 f1
    replace r0 := cell_b hb2 r0
    replace r1 := cell_b hb2 r1
    replace HB := Lib.hid (HB.out.trans (hb2.mono HB.out.size))
    clear hb2 c0 c1 c2 p0 p1 q0 q1
    generalize bnd xs ys vs (xl,xh) (yl,yh) = bd at *
    go_wp2_with fail
    refine bodyPost_ret (v := .tuple #[.agg #[.int .i64 bd.1,.int .i64 bd.2],.int .i64 0]) (by simp [results,Tryz.results108,go_sem,r0,r1]) rfl ⟨by rw [R.out],?_⟩
    exact (HB.out.setCell (p := ⟨w.heap.size + 1 + 1 + 1,0,none⟩) (by show _ ≤ _ + 1 + 1 + 1; omega) _).setCell (p := ⟨w.heap.size + 1 + 1 + 1,1,none⟩) (by show _ ≤ _ + 1 + 1 + 1; omega) _
end Go.Proofs.YtbncpngjclabhaaGreat
/- What came in or was made, as lists of numbers, in both tongues; old contracts as abstract ones. -/
namespace Go.Proofs.YtbncpngjclabhaaGreat
open Go.RowKit Lift

section
variable {w : World} {β : Bet} {Z : Blk}
theorem rep_ints {v : Value} {l : List Int} (h : Rep w β Z v (.list (ints l))) : ∃ A c,v = .slice A l.length c ∧ Ints w A l ∧ l.length ≤ c := by
  generalize hd : D.list (ints l) = d at h
  cases h with
  | list0 A c =>
    have : l = [] := by simpa [ints] using hd
    subst this
    exact ⟨A,c,rfl,fun h => by simp at h,by simp⟩
  | list b off c sz L vs hz hb hc hs hcell hrep =>
    cases hd
    refine ⟨_,c,by rw [ints_len],fun hl => ⟨b,off,rfl,hb,fun k hk => ?_⟩,by rw [← ints_len l]; exact hc⟩
    have hk' : k < (ints l).length := by rw [ints_len]; exact hk
    have hg := ints_get l k hk'
    have hsz : sz = 1 := by rw [← hs _ (List.getElem_mem hk'),hg]; rfl
    have h0 : 0 < (ints l)[k].length := by rw [hg]; simp
    have h1 := hcell k 0 hk' h0
    have h2 := hrep k 0 hk' h0
    rw [getElem_of_eq hk' hg 0 h0 (by simp)] at h2
    simp only [List.getElem_cons_zero] at h2
    rw [h1.trans (congrArg some h2.val_eq.symm) |>.symm,hsz]
    simp
  | _ => cases hd
theorem rep_mat {v : Value} {l : List (List Int)} (h : Rep w β Z v (.list (rows l))) : ∃ A c,v = .slice A l.length c ∧ Mat w A l := by
  generalize hd : D.list (rows l) = d at h
  cases h with
  | list0 A c =>
    have : l = [] := by simpa [rows] using hd
    subst this
    exact ⟨A,c,rfl,fun h => by simp at h⟩
  | list b off c sz L vs hz hb hc hs hcell hrep =>
    cases hd
    refine ⟨_,c,by rw [rows_len],fun hl => ⟨b,off,rfl,hb,fun k hk => ?_⟩⟩
    have hk' : k < (rows l).length := by rw [rows_len]; exact hk
    have hg := rows_get l k hk'
    have hsz : sz = 1 := by rw [← hs _ (List.getElem_mem hk'),hg]; rfl
    have h0 : 0 < (rows l)[k].length := by rw [hg]; simp
    have h1 := hcell k 0 hk' h0
    have h2 := hrep k 0 hk' h0
    rw [getElem_of_eq hk' hg 0 h0 (by simp)] at h2
    simp only [List.getElem_cons_zero] at h2
    obtain ⟨A,cc,e1,e2,_⟩ := rep_ints h2
    refine ⟨A,cc,?_,e2⟩
    rw [hsz,e1] at h1
    simpa using h1
  | _ => cases hd
theorem rep_agg {v : Value} {l : List D} (h : Rep w β Z v (.agg l)) : ∃ cs : Array Value,v = .agg cs ∧ cs.size = l.length ∧ ∀ i (h : i < l.length),Rep w β Z (cs.getD i undef) l[i] := by
  cases h with
  | agg cs _ h1 h2 => exact ⟨cs,rfl,h1,h2⟩
theorem rep_tab {v : Value} {xs ys : List Int} {vs : List (List Int)} (h : Rep w β Z v (tabD xs ys vs)) : ∃ X Y V cx cy cv,v = .agg #[.slice X xs.length cx,.slice Y ys.length cy,.slice V vs.length cv] ∧ TabR w X Y V cx cy cv xs ys vs := by
  obtain ⟨cs,rfl,h1,h2⟩ := rep_agg h
  obtain ⟨X,cx,e0,hX,lx⟩ := rep_ints (h2 0 (by simp))
  obtain ⟨Y,cy,e1,hY,ly⟩ := rep_ints (h2 1 (by simp))
  obtain ⟨V,cv,e2,hV⟩ := rep_mat (h2 2 (by simp))
  refine ⟨X,Y,V,cx,cy,cv,?_,⟨hX,hY,hV,lx,ly⟩⟩
  rw [← e0,← e1,← e2]
  congr 1
  apply Array.ext
  · simpa using h1
  · intro i h3 h4
    have h5 : i < 3 := by simpa using h4
    match i,h5 with
    | 0,_ => simp [h3]
    | 1,_ => simp [h3]
    | 2,_ => simp [h3]
theorem rep_sp {v : Value} {x : Int × Int} (h : Rep w β Z v (spD x)) : v = .agg #[.int .i64 x.1,.int .i64 x.2] := by
  obtain ⟨cs,rfl,h1,h2⟩ := rep_agg h
  have e0 := (h2 0 (by simp)).val_eq
  have e1 := (h2 1 (by simp)).val_eq
  rw [e0,e1]
  congr 1
  apply Array.ext
  · simpa using h1
  · intro i h3 h4
    have h5 : i < 2 := by simpa using h4
    match i,h5 with
    | 0,_ => simp [h3]
    | 1,_ => simp [h3]
end
theorem args1 {vs : Array Value} (h : vs.size = 1) : vs = #[vs.getD 0 undef] := by
  apply Array.ext
  · simpa using h
  · intro i h3 h4
    have h5 : i < 1 := by simpa using h4
    match i,h5 with
    | 0,_ => simp [h3]
theorem args2 {vs : Array Value} (h : vs.size = 2) : vs = #[vs.getD 0 undef,vs.getD 1 undef] := by
  apply Array.ext
  · simpa using h
  · intro i h3 h4
    have h5 : i < 2 := by simpa using h4
    match i,h5 with
    | 0,_ => simp [h3]
    | 1,_ => simp [h3]
theorem args3 {vs : Array Value} (h : vs.size = 3) : vs = #[vs.getD 0 undef,vs.getD 1 undef,vs.getD 2 undef] := by
  apply Array.ext
  · simpa using h
  · intro i h3 h4
    have h5 : i < 3 := by simpa using h4
    match i,h5 with
    | 0,_ => simp [h3]
    | 1,_ => simp [h3]
    | 2,_ => simp [h3]
end Go.Proofs.YtbncpngjclabhaaGreat
/- Old contracts as abstract ones: tables and bounds. No conditions. -/
namespace Go.Proofs.YtbncpngjclabhaaGreat
open Go.RowKit Lift

theorem flat_sp (x : Int × Int) (w : World) (β : Bet) (Z : Blk) : Rep w β Z (.agg #[.int .i64 x.1,.int .i64 x.2]) (spD x) :=
  .agg _ _ rfl fun i hi => by
    have : i < 2 := by simpa using hi
    match i,this with
    | 0,_ => exact .val _
    | 1,_ => exact .val _
theorem flat_sp1 (x : Int × Int) (e : Int) (w : World) (β : Bet) (Z : Blk) : Rep w β Z (.tuple #[.agg #[.int .i64 x.1,.int .i64 x.2],.int .i64 e]) (.tup [spD x,dI e]) :=
  .tup _ _ rfl fun i hi => by
    have : i < 2 := by simpa using hi
    match i,this with
    | 0,_ => exact flat_sp x w β Z
    | 1,_ => exact .val _
theorem Tbl.sz {xs ys : List Int} {vs : List (List Int)} (h : Tbl xs ys vs) : TSz xs ys vs := by
  have h1 := h.ax.twelve
  have h2 := h.ay.twelve
  have h3 := h.len
  refine ⟨by omega,by omega,by omega,fun r hr => ?_⟩
  obtain ⟨k,hk,rfl⟩ := List.getElem_of_mem hr
  have := h.row k hk
  simp only [List.getElem?_eq_getElem hk,Option.getD_some] at this
  omega
section
variable {xs ys : List Int} {vs : List (List Int)}
theorem rcheckTable_ac (hS : TSm xs ys vs) : AC Tryz.prog 121 [tabD xs ys vs] [] [] (dI (tabErr xs ys vs)) :=
  ac_of_calls ⟨Tryz.f121,Tryz.func121,by decide,rfl⟩ (fun _ _ _ => .val _) fun w us β Z hs hr => by
    obtain ⟨X,Y,V,cx,cy,cv,e,hR⟩ := rep_tab (hr 0 (by simp))
    rw [args1 hs,e]
    exact rcheckTable_any xs ys vs X Y V cx cy cv w hS hR
theorem rbound_ac (x y : Int × Int) (hS : TSm xs ys vs) : AC Tryz.prog 108 [tabD xs ys vs,spD x,spD y] [] [] (.tup [spD (boundR xs ys vs x y).1,dI (boundR xs ys vs x y).2]) :=
  ac_of_calls ⟨Tryz.f108,Tryz.func108,by decide,rfl⟩ (flat_sp1 _ _) fun w us β Z hs hr => by
    obtain ⟨X,Y,V,cx,cy,cv,e,hR⟩ := rep_tab (hr 0 (by simp))
    rw [args3 hs,e,rep_sp (hr 1 (by simp)),rep_sp (hr 2 (by simp))]
    exact rboundF_any xs ys vs X Y V cx cy cv x y w hS hR
theorem between_ac (l : List Int) (x : Int × Int) (h1 : 1 ≤ l.length) (hl : l.length ≤ 1000000) : AC Tryz.prog 52 [.list (ints l),spD x] [] [] (dB (liesB l x)) :=
  ac_of_calls ⟨Tryz.f52,Tryz.func52,by decide,rfl⟩ (fun _ _ _ => .val _) fun w us β Z hs hr => by
    obtain ⟨A,c,e,hA,_⟩ := rep_ints (hr 0 (by simp))
    rw [args2 hs,e,rep_sp (hr 1 (by simp))]
    exact between_any A l c x.1 x.2 w h1 hl hA
theorem bound_ac (x y : Int × Int) (hS : TSz xs ys vs) : AC Tryz.prog 15 [tabD xs ys vs,spD x,spD y] [] [] (.tup [spD (boundR xs ys vs x y).1,dI (boundR xs ys vs x y).2]) :=
  ac_of_calls ⟨Tryz.f15,Tryz.func15,by decide,rfl⟩ (flat_sp1 _ _) fun w us β Z hs hr => by
    obtain ⟨X,Y,V,cx,cy,cv,e,hR⟩ := rep_tab (hr 0 (by simp))
    rw [args3 hs,e,rep_sp (hr 1 (by simp)),rep_sp (hr 2 (by simp))]
    exact bound_any xs ys vs X Y V cx cy cv x y w hS hR
end
end Go.Proofs.YtbncpngjclabhaaGreat
/- Old contracts as abstract ones, for the rotor. No conditions. -/
namespace Go.Proofs.YtbncpngjclabhaaGreat
open Go.RowKit Lift

theorem rep_i {w : World} {β : Bet} {Z : Blk} {v : Value} {n : Int} (h : Rep w β Z v (.val (.int .i64 n))) : v = .int .i64 n := by
  cases h; rfl
section
variable {xs ys : List Int} {vs : List (List Int)}
theorem partS_ac (a : Int × Int) (n d : Int) : AC Tryz.prog 95 [spD a,dI n,dI d] [] [] (.tup [spD (partR a n d).1,dI (partR a n d).2]) :=
  ac_of_calls ⟨Tryz.f95,Tryz.func95,by decide,rfl⟩ (flat_sp1 _ _) fun w us β Z hs hr => by
    rw [args3 hs,rep_sp (hr 0 (by simp)),rep_i (hr 1 (by simp)),rep_i (hr 2 (by simp))]
    exact part_any a n d w
theorem farT_ac (hS : TSm xs ys vs) : AC Tryz.prog 27 [tabD xs ys vs] [] [] (dB (farB xs ys vs)) :=
  ac_of_calls ⟨Tryz.f27,Tryz.func27,by decide,rfl⟩ (fun _ _ _ => .val _) fun w us β Z hs hr => by
    obtain ⟨X,Y,V,cx,cy,cv,e,hR⟩ := rep_tab (hr 0 (by simp))
    rw [args1 hs,e]
    exact far_any xs ys vs X Y V cx cy cv w hS hR
theorem checkT_ac (hS : TSz xs ys vs) : AC Tryz.prog 60 [tabD xs ys vs] [] [] (dI (tabErr xs ys vs)) :=
  ac_of_calls ⟨Tryz.f60,Tryz.func60,by decide,rfl⟩ (fun _ _ _ => .val _) fun w us β Z hs hr => by
    obtain ⟨X,Y,V,cx,cy,cv,e,hR⟩ := rep_tab (hr 0 (by simp))
    rw [args1 hs,e]
    exact checkTableR xs ys vs X Y V cx cy cv w hS hR
end
end Go.Proofs.YtbncpngjclabhaaGreat
/- The functions' bodies, translated. Written by a program; no conditions. -/
namespace Go.Proofs.YtbncpngjclabhaaGreat
open Go.RowKit Lift

def cspans_within : ACode :=
 (.seq
 (.region false [oo 6 (.mv (.const (.bool false)))] [])
 (.seq
 (.region false [om 7 0,
 om 8 1,
 oo 9 (.bin .geq (.tmp 7) (.tmp 8)),
 om 10 9,
 og 11 10 true (.mv (.tmp 0)) [],
 og 12 10 true (.mv (.tmp 2)) [],
 og 13 10 true (.bin .leq (.tmp 11) (.tmp 12)) [],
 oo 14 (.pick (.tmp 10) (.tmp 13) (.const (.bool false))),
 om 6 14] [7,8,9,10,11,12,13,14])
 .ret))
theorem kspans_within : IsCode Tryz.prog 74 15 cspans_within [.tmp 6] :=
 ⟨Tryz.f74,_,[0,1,2,6],Tryz.func74,rfl,by decide,rfl,by kernel_rfl,by kernel_rfl⟩
def cspans_valid : ACode :=
 (.seq
 (.region false [oo 1 (.box (.tmp 0)),
 oo 2 (.mv (.const (.bool false)))] [])
 (.seq
 (.region false [oo 3 (.fad 0 (.tmp 1)),
 oo 4 (.load1 (.tmp 3)),
 oo 5 (.fad 1 (.tmp 1)),
 oo 6 (.load1 (.tmp 5)),
 oo 7 (.call (.func 74) [(.tmp 4),(kI (-1000000)),(.tmp 6)]),
 om 8 7,
 og 9 8 true (.fad 1 (.tmp 1)) [],
 og 10 8 true (.load1 (.tmp 9)) [],
 og 11 8 true (.bin .leq (.tmp 10) (kI 1000000)) [],
 oo 12 (.pick (.tmp 8) (.tmp 11) (.const (.bool false))),
 om 2 12] [3,4,5,6,7,8,9,10,11,12])
 .ret))
theorem kspans_valid : IsCode Tryz.prog 87 13 cspans_valid [.tmp 2] :=
 ⟨Tryz.f87,_,[0,1,2],Tryz.func87,rfl,by decide,rfl,by kernel_rfl,by kernel_rfl⟩
def cspans_spanned_S1 : ACode :=
 (.seq
 (.region false [oo 1 (.box (.tmp 0)),
 oo 2 (.mv (.const (.bool false)))] [])
 (.seq
 (.region false [oo 3 (.loadN 2 (.tmp 1)),
 oo 4 (.call (.func 87) [(.tmp 3)]),
 oo 5 (.un .not (.tmp 4)),
 om 2 5] [3,4,5])
 .ret))
theorem kspans_spanned_S1 : IsCode Tryz.prog 86 6 cspans_spanned_S1 [.tmp 2] :=
 ⟨Tryz.f86,_,[0,1,2],Tryz.func86,rfl,by decide,rfl,by kernel_rfl,by kernel_rfl⟩
def cslices_IndexFunc_L_L_Japi_Span_Kapi_Span_J : ACode :=
 (.seq
 (.region false [oo 4 (.mv (kI 0))] [])
 (.seq
 (.seq
 (.region false [om 6 0,
 oo 7 (.len_ (.tmp 6)),
 oo 8 (.mv (kI 0))] [6])
 (.block 0
 (.loop
 (.seq
 (.region false [oo 9 (.bin .lss (.tmp 8) (.tmp 7))] [])
 (.seq
 (.cond (.tmp 9)
 .skip
 (.exit 0))
 (.seq
 (.block 1
 (.seq
 (.region false [om 10 8,
 om 5 10] [10])
 (.seq
 (.region false [om 11 1,
 om 12 0,
 om 13 5,
 oo 14 (.iadS 2 (.tmp 12) (.tmp 13)),
 oo 15 (.loadN 2 (.tmp 14)),
 oo 16 (.call (.tmp 11) [(.tmp 15)])] [11,12,13,14,15])
 (.cond (.tmp 16)
 (.seq
 (.region false [om 17 5,
 om 4 17] [17])
 .ret)
 .skip))))
 (.region false [oo 18 (.bin .add (.tmp 8) (kI 1)),
 om 8 18] [18])))))))
 (.seq
 (.region false [oo 4 (.mv (kI (-1)))] [])
 .ret)))
theorem kslices_IndexFunc_L_L_Japi_Span_Kapi_Span_J : IsCode Tryz.prog 72 19 cslices_IndexFunc_L_L_Japi_Span_Kapi_Span_J [.tmp 4] :=
 ⟨Tryz.f72,_,[16,9,0,8,7,1,5,4],Tryz.func72,rfl,by decide,rfl,by kernel_rfl,by kernel_rfl⟩
def cslices_ContainsFunc_L_L_Japi_Span_Kapi_Span_J : ACode :=
 (.seq
 (.region false [oo 4 (.mv (.const (.bool false)))] [])
 (.seq
 (.region false [om 5 0,
 om 6 1,
 oo 7 (.call (.func 72) [(.tmp 5),(.tmp 6)]),
 oo 8 (.bin .geq (.tmp 7) (kI 0)),
 om 4 8] [5,6,7,8])
 .ret))
theorem kslices_ContainsFunc_L_L_Japi_Span_Kapi_Span_J : IsCode Tryz.prog 44 9 cslices_ContainsFunc_L_L_Japi_Span_Kapi_Span_J [.tmp 4] :=
 ⟨Tryz.f44,_,[0,1,4],Tryz.func44,rfl,by decide,rfl,by kernel_rfl,by kernel_rfl⟩
def cspans_spanned : ACode :=
 (.seq
 (.region false [oo 2 (.mv (kI 0))] [])
 (.seq
 (.seq
 (.region false [om 3 0,
 oo 4 (.call (.func 44) [(.tmp 3),(.func 86)])] [3])
 (.cond (.tmp 4)
 (.seq
 (.region false [oo 2 (.mv (kI 10))] [])
 .ret)
 .skip))
 (.seq
 (.region false [oo 2 (.mv (kI 0))] [])
 .ret)))
theorem kspans_spanned : IsCode Tryz.prog 61 5 cspans_spanned [.tmp 2] :=
 ⟨Tryz.f61,_,[4,0,2],Tryz.func61,rfl,by decide,rfl,by kernel_rfl,by kernel_rfl⟩
def cspans_Check : ACode :=
 (.seq
 (.region false [oo 2 (.mv (kI 0))] [])
 (.seq
 (.seq
 (.region false [om 3 0,
 oo 4 (.len_ (.tmp 3)),
 oo 5 (.call (.func 74) [(.tmp 4),(kI 1),(kI 3)]),
 oo 6 (.un .not (.tmp 5))] [3,4,5])
 (.cond (.tmp 6)
 (.seq
 (.region false [oo 2 (.mv (kI 10))] [])
 .ret)
 .skip))
 (.seq
 (.region false [om 7 0,
 oo 8 (.call (.func 61) [(.tmp 7)]),
 om 2 8] [7,8])
 .ret)))
theorem kspans_Check : IsCode Tryz.prog 48 9 cspans_Check [.tmp 2] :=
 ⟨Tryz.f48,_,[6,0,2],Tryz.func48,rfl,by decide,rfl,by kernel_rfl,by kernel_rfl⟩
def cref01_From : ACode :=
 (.seq
 (.region false [oo 6 (.mv (.const (.bool false)))] [])
 (.seq
 (.region false [om 7 0,
 om 8 1,
 oo 9 (.bin .geq (.tmp 7) (.tmp 8)),
 om 10 9,
 og 11 10 true (.mv (.tmp 0)) [],
 og 12 10 true (.mv (.tmp 2)) [],
 og 13 10 true (.bin .leq (.tmp 11) (.tmp 12)) [],
 oo 14 (.pick (.tmp 10) (.tmp 13) (.const (.bool false))),
 om 6 14] [7,8,9,10,11,12,13,14])
 .ret))
theorem kref01_From : IsCode Tryz.prog 77 15 cref01_From [.tmp 6] :=
 ⟨Tryz.f77,_,[0,1,2,6],Tryz.func77,rfl,by decide,rfl,by kernel_rfl,by kernel_rfl⟩
def cref01_Valid : ACode :=
 (.seq
 (.region false [oo 1 (.box (.tmp 0)),
 oo 2 (.mv (.const (.bool false)))] [])
 (.seq
 (.region false [oo 3 (.fad 0 (.tmp 1)),
 oo 4 (.load1 (.tmp 3)),
 oo 5 (.call (.func 77) [(.tmp 4),(kI (-1000000)),(kI 1000000)]),
 om 6 5,
 og 7 6 true (.fad 1 (.tmp 1)) [],
 og 8 6 true (.load1 (.tmp 7)) [],
 og 9 6 true (.fad 0 (.tmp 1)) [],
 og 10 6 true (.load1 (.tmp 9)) [],
 og 11 6 true (.call (.func 77) [(.tmp 8),(.tmp 10),(kI 1000000)]) [],
 oo 12 (.pick (.tmp 6) (.tmp 11) (.const (.bool false))),
 om 2 12] [3,4,5,6,7,8,9,10,11,12])
 .ret))
theorem kref01_Valid : IsCode Tryz.prog 57 13 cref01_Valid [.tmp 2] :=
 ⟨Tryz.f57,_,[0,1,2],Tryz.func57,rfl,by decide,rfl,by kernel_rfl,by kernel_rfl⟩
def cslices_IndexFunc_L_L_Jint_Kint_J : ACode :=
 (.seq
 (.region false [oo 4 (.mv (kI 0))] [])
 (.seq
 (.seq
 (.region false [om 6 0,
 oo 7 (.len_ (.tmp 6)),
 oo 8 (.mv (kI 0))] [6])
 (.block 0
 (.loop
 (.seq
 (.region false [oo 9 (.bin .lss (.tmp 8) (.tmp 7))] [])
 (.seq
 (.cond (.tmp 9)
 .skip
 (.exit 0))
 (.seq
 (.block 1
 (.seq
 (.region false [om 10 8,
 om 5 10] [10])
 (.seq
 (.region false [om 11 1,
 om 12 0,
 om 13 5,
 oo 14 (.iadS 1 (.tmp 12) (.tmp 13)),
 oo 15 (.load1 (.tmp 14)),
 oo 16 (.call (.tmp 11) [(.tmp 15)])] [11,12,13,14,15])
 (.cond (.tmp 16)
 (.seq
 (.region false [om 17 5,
 om 4 17] [17])
 .ret)
 .skip))))
 (.region false [oo 18 (.bin .add (.tmp 8) (kI 1)),
 om 8 18] [18])))))))
 (.seq
 (.region false [oo 4 (.mv (kI (-1)))] [])
 .ret)))
theorem kslices_IndexFunc_L_L_Jint_Kint_J : IsCode Tryz.prog 109 19 cslices_IndexFunc_L_L_Jint_Kint_J [.tmp 4] :=
 ⟨Tryz.f109,_,[16,9,0,8,7,1,5,4],Tryz.func109,rfl,by decide,rfl,by kernel_rfl,by kernel_rfl⟩
def cslices_ContainsFunc_L_L_Jint_Kint_J : ACode :=
 (.seq
 (.region false [oo 4 (.mv (.const (.bool false)))] [])
 (.seq
 (.region false [om 5 0,
 om 6 1,
 oo 7 (.call (.func 109) [(.tmp 5),(.tmp 6)]),
 oo 8 (.bin .geq (.tmp 7) (kI 0)),
 om 4 8] [5,6,7,8])
 .ret))
theorem kslices_ContainsFunc_L_L_Jint_Kint_J : IsCode Tryz.prog 83 9 cslices_ContainsFunc_L_L_Jint_Kint_J [.tmp 4] :=
 ⟨Tryz.f83,_,[0,1,4],Tryz.func83,rfl,by decide,rfl,by kernel_rfl,by kernel_rfl⟩
def cslices_IndexFunc_L_L_J_L_Jint_K_L_Jint_J : ACode :=
 (.seq
 (.region false [oo 4 (.mv (kI 0))] [])
 (.seq
 (.seq
 (.region false [om 6 0,
 oo 7 (.len_ (.tmp 6)),
 oo 8 (.mv (kI 0))] [6])
 (.block 0
 (.loop
 (.seq
 (.region false [oo 9 (.bin .lss (.tmp 8) (.tmp 7))] [])
 (.seq
 (.cond (.tmp 9)
 .skip
 (.exit 0))
 (.seq
 (.block 1
 (.seq
 (.region false [om 10 8,
 om 5 10] [10])
 (.seq
 (.region false [om 11 1,
 om 12 0,
 om 13 5,
 oo 14 (.iadS 1 (.tmp 12) (.tmp 13)),
 oo 15 (.load1 (.tmp 14)),
 oo 16 (.call (.tmp 11) [(.tmp 15)])] [11,12,13,14,15])
 (.cond (.tmp 16)
 (.seq
 (.region false [om 17 5,
 om 4 17] [17])
 .ret)
 .skip))))
 (.region false [oo 18 (.bin .add (.tmp 8) (kI 1)),
 om 8 18] [18])))))))
 (.seq
 (.region false [oo 4 (.mv (kI (-1)))] [])
 .ret)))
theorem kslices_IndexFunc_L_L_J_L_Jint_K_L_Jint_J : IsCode Tryz.prog 110 19 cslices_IndexFunc_L_L_J_L_Jint_K_L_Jint_J [.tmp 4] :=
 ⟨Tryz.f110,_,[16,9,0,8,7,1,5,4],Tryz.func110,rfl,by decide,rfl,by kernel_rfl,by kernel_rfl⟩
def cslices_ContainsFunc_L_L_J_L_Jint_K_L_Jint_J : ACode :=
 (.seq
 (.region false [oo 4 (.mv (.const (.bool false)))] [])
 (.seq
 (.region false [om 5 0,
 om 6 1,
 oo 7 (.call (.func 110) [(.tmp 5),(.tmp 6)]),
 oo 8 (.bin .geq (.tmp 7) (kI 0)),
 om 4 8] [5,6,7,8])
 .ret))
theorem kslices_ContainsFunc_L_L_J_L_Jint_K_L_Jint_J : IsCode Tryz.prog 85 9 cslices_ContainsFunc_L_L_J_L_Jint_K_L_Jint_J [.tmp 4] :=
 ⟨Tryz.f85,_,[0,1,4],Tryz.func85,rfl,by decide,rfl,by kernel_rfl,by kernel_rfl⟩
end Go.Proofs.YtbncpngjclabhaaGreat
/- Calls that change objects, checked by computing. No conditions. -/
namespace Go.Proofs.YtbncpngjclabhaaGreat.Lift
open Go Go.RowKit

theorem aw_condT {rd : Rd} {P : Program} {n : Nat} {pre : List Nat} {Q : AExit → St → Prop} {s : St} {c : Operand} {x y : ACode} (hb : s.F.ev c = .val (.bool true)) (h : AWb rd P n pre x Q s) : AWb rd P n pre (.cond c x y) Q s := aw_cond hb (fun _ => h) (fun h => nomatch h)
theorem aw_condF {rd : Rd} {P : Program} {n : Nat} {pre : List Nat} {Q : AExit → St → Prop} {s : St} {c : Operand} {x y : ACode} (hb : s.F.ev c = .val (.bool false)) (h : AWb rd P n pre y Q s) : AWb rd P n pre (.cond c x y) Q s := aw_cond hb (fun h => nomatch h) (fun _ => h)
def HasAll (hp : Hp) : Hp → Prop
  | [] => True
  | x :: l => hget hp x.1 = some x.2 ∧ HasAll hp l
theorem HasAll.get {hp : Hp} : ∀ {h : Hp},HasAll hp h → ∀ x ∈ h,hget hp x.1 = some x.2
  | [],_,x,hx => by simp at hx
  | y :: l,h,x,hx => by
    rcases List.mem_cons.1 hx with rfl | hx
    · exact h.1
    · exact HasAll.get h.2 x hx
def newOk (hp h : Hp) (up : Ups) : Bool := up.all fun x => (h.map (·.1)).contains x.1 || (hget hp x.1).isNone
theorem newOk_get {hp h : Hp} {up : Ups} (hk : newOk hp h up = true) : ∀ g ∈ up.map (·.1),g ∉ h.map (·.1) → hget hp g = none := fun g hg hn => by
  obtain ⟨x,hx,rfl⟩ := List.mem_map.1 hg
  have := List.all_eq_true.1 hk x hx
  simp only [Bool.or_eq_true,List.contains_iff_mem,Option.isNone_iff_eq_none] at this
  exact this.resolve_left hn
theorem vr_valq {H : Heap} {V : List Nat} {m : List (Nat × Nat)} {v v' : Value} (h : v = v') : VR H V m (.val v) (.val v') := h ▸ vr_val v
theorem vr_listq {H : Heap} {V : List Nat} {m : List (Nat × Nat)} {l l' : List (List D)} (h : l = l') : VR H V m (.list l) (.list l') := h ▸ vr_list l
section
variable {P : Program} {dr : Bool} {b : Nat} {Q : St → Prop} {dst : Option Nat} {anc : List Nat} {l : List AOper} {k : Nat} {s : St} {log : Lg}
theorem acallB {f : FuncId} {first caps args : List D} {d : D} {h : Hp} {up : Ups} (hA : AC P f (first ++ args ++ caps) h up d) (hh : HasAll s.hp h) (hf : newOk s.hp h up = true) (hn : okNew s.hp (b + 8 * k) (up.map (·.1)) = true)
    (hl : okLog dr log anc (h.map (·.1) ++ []) (up.map (·.1)) = true) (hK : ARun P dr b Q l (k + 1) (s.app dst d up) ((k,h.map (·.1) ++ [],up.map (·.1)) :: log)) : ACallK P dr b Q (.fn f first caps) args dst anc l k s log :=
  acallH hA [] (VwL.refl _) (.inl rfl) (by simp) (by simp) hh.get (newOk_get hf) hn hl hK
end
end Go.Proofs.YtbncpngjclabhaaGreat.Lift
/- Within. No conditions. -/
namespace Go.Proofs.YtbncpngjclabhaaGreat
open Go.RowKit Lift

def wI (n a b : Int) : Bool := decide (a ≤ n) && decide (n ≤ b)
theorem wI_t {n a b : Int} (h : wI n a b = true) : a ≤ n ∧ n ≤ b := by simpa [wI] using h
end Go.Proofs.YtbncpngjclabhaaGreat
/- What comes behind a region, hidden while the region is walked. No conditions. -/
namespace Go.Proofs.YtbncpngjclabhaaGreat.Lift
open Go Go.RowKit

theorem aw_hide {rd : Rd} {P : Program} {n : Nat} {pre : List Nat} {Q : AExit → St → Prop} {s : St} {x : ACode} (h : ∀ K : AExit → St → Prop,K = Q → AWb rd P n pre x K s) : AWb rd P n pre x Q s := h Q rfl
section
variable {K : St → Prop} {Q : AExit → St → Prop} {s : St}
theorem thenQ_n (h : K s) : thenQ K Q .norm s := h
theorem thenQ_e {i : Nat} (h : Q (.ex i) s) : thenQ K Q (.ex i) s := h
theorem blockQ_n {id : Nat} (h : Q .norm s) : blockQ id Q .norm s := h
theorem blockQ_t {id : Nat} (h : Q .norm s) : blockQ id Q (.ex id) s := by simp only [blockQ,if_true]; exact h
theorem blockQ_f {id i : Nat} (hn : i ≠ id) (h : Q (.ex i) s) : blockQ id Q (.ex i) s := by simp only [blockQ]; rw [if_neg hn]; exact h
end
end Go.Proofs.YtbncpngjclabhaaGreat.Lift
/- A recorder's layout, its frames and samples, in numbers. No conditions. -/
namespace Go.Proofs.YtbncpngjclabhaaGreat
open Go.RowKit Lift

structure Fl where
  word : Int
  bit : Int
  size : Int
  sgn : Bool
  num : Int
  den : Int
  add : Int
  every : Int
  phase : Int
structure Lay where
  words : Int
  s0 : Int
  s1 : Int
  s2 : Int
  s3 : Int
  fl : List Fl
def fl0 : Fl := ⟨0,0,0,false,0,0,0,0,0⟩
def sync (l : Lay) : List Int := [l.s0,l.s1,l.s2,l.s3]

structure FOk (w : Int) (f : Fl) : Prop where
  w1 : 1 ≤ f.word
  w2 : f.word ≤ w - 1
  b1 : 0 ≤ f.bit
  s1 : 1 ≤ f.size
  bs : f.bit + f.size ≤ 12
  n1 : -1000 ≤ f.num
  n2 : f.num ≤ 1000
  d1 : 1 ≤ f.den
  d2 : f.den ≤ 1000
  a1 : -1000000 ≤ f.add
  a2 : f.add ≤ 1000000
  ev : f.every = 1 ∨ f.every = 2 ∨ f.every = 4
  p1 : 0 ≤ f.phase
  p2 : f.phase ≤ f.every - 1
def inSub (f : Fl) (s : Int) : Prop := s.tmod f.every = f.phase
instance (f : Fl) (s : Int) : Decidable (inSub f s) := inferInstanceAs (Decidable (_ = _))
def Ovl (f g : Fl) : Prop := f.word = g.word ∧ f.bit < g.bit + g.size ∧ g.bit < f.bit + f.size
structure LayOk (l : Lay) : Prop where
  w1 : 2 ≤ l.words
  w2 : l.words ≤ 32
  nf : l.fl.length ≤ 16
  sy : ∀ k,k < 4 → 0 ≤ (sync l)[k]?.getD 0 ∧ (sync l)[k]?.getD 0 ≤ 4095
  sd : ∀ i,i < 4 → ∀ k,k < i → (sync l)[i]?.getD 0 ≠ (sync l)[k]?.getD 0
  fo : ∀ k,k < l.fl.length → FOk l.words (l.fl[k]?.getD fl0)
  ov : ∀ i,i < l.fl.length → ∀ k,k < i → ∀ s : Nat,s < 4 → inSub (l.fl[i]?.getD fl0) s → inSub (l.fl[k]?.getD fl0) s → ¬ Ovl (l.fl[i]?.getD fl0) (l.fl[k]?.getD fl0)
def rawU (f : Fl) (w : Nat) : Nat := w / 2 ^ f.bit.toNat % 2 ^ f.size.toNat
def rawI (f : Fl) (w : Nat) : Int := if f.sgn = true ∧ 2 ^ (f.size.toNat - 1) ≤ rawU f w then (rawU f w : Int) - 2 ^ f.size.toNat else rawU f w
def valI (f : Fl) (r : Int) : Int := f.add * f.den + r * f.num
def wOk (x : Int) : Bool := decide (0 ≤ x) && decide (x ≤ 4095)
def frOk (l : Lay) (fr : List Int) : Prop := (fr.length : Int) = l.words ∧ fr.all wOk = true
instance (l : Lay) (fr : List Int) : Decidable (frOk l fr) := inferInstanceAs (Decidable (_ ∧ _))
def idx4 (l : Lay) (x : Int) : Int := if x = l.s0 then 0 else if x = l.s1 then 1 else if x = l.s2 then 2 else if x = l.s3 then 3 else -1
def subF (l : Lay) (fr : List Int) : Int := if frOk l fr then idx4 l (fr[0]?.getD 0) else -1
def smp (l : Lay) (f : Fl) (fr : List Int) : Option Int := if 0 ≤ subF l fr ∧ inSub f (subF l fr) then some (valI f (rawI f (fr[f.word.toNat]?.getD 0).toNat)) else none
def frm (frs : List (List Int)) (k : Nat) : List Int := frs[k]?.getD []
end Go.Proofs.YtbncpngjclabhaaGreat
/- Bits that fields use, and what is packed, in numbers. No conditions. -/
namespace Go.Proofs.YtbncpngjclabhaaGreat
open Go.RowKit Lift

/-! ### packing -/
def canF (f : Fl) (n : Int) : Prop := if f.sgn = true then -(2 ^ (f.size.toNat - 1)) ≤ n ∧ n ≤ 2 ^ (f.size.toNat - 1) - 1 else 0 ≤ n ∧ n ≤ 2 ^ f.size.toNat - 1
instance (f : Fl) (n : Int) : Decidable (canF f n) := by unfold canF; infer_instance
def packOk (s : Int) (f : Fl) (n : Int) : Prop := if inSub f s then canF f n else n = 0
instance (s : Int) (f : Fl) (n : Int) : Decidable (packOk s f n) := by unfold packOk; infer_instance
end Go.Proofs.YtbncpngjclabhaaGreat
/- Conditions and events over frames, in numbers. No conditions. -/
namespace Go.Proofs.YtbncpngjclabhaaGreat
open Go.RowKit Lift

structure Cd where
  field : Int
  lim : Int
  above : Bool
def cndV (c : Cd) (f : Fl) (v : Int) : Bool := if c.above = true then decide (v ≥ c.lim * f.den) else decide (v ≤ c.lim * f.den)

section
variable (l : Lay) (frs : List (List Int)) (c : Cd) (f : Fl)
def hAt : Nat → Nat → Bool
  | 0,_ => false
  | k + 1,j => match smp l f (frm frs k) with
    | some v => if k ≤ j ∧ (j : Int) < k + f.every then cndV c f v else hAt k j
    | none => hAt k j
variable {l frs c f}
variable (l frs c f)
variable {l frs c f}
variable (l frs c f)
def hL (n k : Nat) : List Bool := (List.range n).map fun j => hAt l frs c f k j
end
/-! ### events -/
section
variable (is : Nat → Bool) (H : Int)
/-! ### what is found -/
end
end Go.Proofs.YtbncpngjclabhaaGreat
/- A safety case, in numbers. No conditions. -/
namespace Go.Proofs.YtbncpngjclabhaaGreat
open Go.RowKit Lift

structure Clm where
  needs : List Int
  proofs : List Int
  any : Bool
structure Cas where
  cl : List Clm
  pf : List (Int × Int)
def cl0 : Clm := ⟨[],[],false⟩
def Asc (l : List Int) (b : Int) : Prop := ∀ i,i < l.length → 0 ≤ l[i]?.getD 0 ∧ l[i]?.getD 0 < b ∧ (0 < i → l[i - 1]?.getD 0 < l[i]?.getD 0)
def pfOk (a : Int × Int) : Prop := 0 ≤ a.1 ∧ a.1 ≤ a.2 ∧ a.2 ≤ 2000
instance (a : Int × Int) : Decidable (pfOk a) := inferInstanceAs (Decidable (_ ∧ _))
def clAt (c : Cas) (i : Nat) : Clm := c.cl[i]?.getD cl0
def pfAt (c : Cas) (i : Nat) : Int × Int := c.pf[i]?.getD (0,0)
structure CasOk (c : Cas) : Prop where
  n1 : c.cl.length ≤ 16
  n2 : c.pf.length ≤ 12
  asc : ∀ i,i < c.cl.length → Asc (clAt c i).needs i ∧ Asc (clAt c i).proofs c.pf.length
  pf : ∀ i,i < c.pf.length → pfOk (pfAt c i)
end Go.Proofs.YtbncpngjclabhaaGreat
/- Boxes as abstract values; what is left of a box without another one. No conditions. -/
namespace Go.Proofs.YtbncpngjclabhaaGreat
open Go.RowKit Lift

abbrev Bx := List (Int × Int)
def sps (b : Bx) : List (List D) := b.map fun x => [.val (.int .i64 x.1),.val (.int .i64 x.2)]
def scells : Bx → List D
  | [] => []
  | x :: b => .val (.int .i64 x.1) :: .val (.int .i64 x.2) :: scells b
def bcells (l : List Bx) : List D := l.map fun b => .list (sps b)
def lo (b : Bx) (k : Nat) : Int := (b[k]?.getD (0,0)).1
def hi (b : Bx) (k : Nat) : Int := (b[k]?.getD (0,0)).2
theorem sps_len (b : Bx) : (sps b).length = b.length := by simp [sps]
theorem sps_all (b : Bx) : (sps b).all (fun x => x.length == 2) = true := by simp [sps]
theorem sps_two (b : Bx) : ∀ e ∈ sps b,e.length = 2 := by intro e he; obtain ⟨x,_,rfl⟩ := List.mem_map.1 he; rfl
theorem scells_mem {b : Bx} : ∀ {d : D},d ∈ scells b → ∃ n,d = .val (.int .i64 n) := by
  induction b with
  | nil => intro d h; simp [scells] at h
  | cons x b ih =>
    intro d h
    simp only [scells,List.mem_cons] at h
    rcases h with rfl | rfl | h
    · exact ⟨_,rfl⟩
    · exact ⟨_,rfl⟩
    · exact ih h
theorem scells_in (b : Bx) : ∀ d ∈ scells b,In (fun _ => False) d := fun d hd => by obtain ⟨n,rfl⟩ := scells_mem hd; exact .val _
theorem bcells_in (l : List Bx) : ∀ d ∈ bcells l,In (fun _ => False) d := by
  intro d hd; obtain ⟨x,_,rfl⟩ := List.mem_map.1 hd; exact .list _
/-! ### what the functions compute -/
structure OkB (b : Bx) : Prop where
  pos : 1 ≤ b.length
  len : b.length ≤ 3
  low : ∀ k,k < b.length → -1000000 ≤ lo b k
  le : ∀ k,k < b.length → lo b k ≤ hi b k
  high : ∀ k,k < b.length → hi b k ≤ 1000000
end Go.Proofs.YtbncpngjclabhaaGreat
