/- The law SpansComputes: it returns true; old memory stays. -/
import Derived.Test.YtfaiogajaaclcaaSp2
namespace Go.Proofs.Ytfaiogajaaclcaa
open Go.RowKit

set_option maxRecDepth 100000 in
set_option maxHeartbeats 4000000 in
theorem computes_any (a1 a2 b1 b2 f1 f2 : Int) (w : World) :
    Calls Try.prog 10 #[.agg #[.int .i64 a1, .int .i64 a2], .agg #[.int .i64 b1, .int .i64 b2], .agg #[.int .i64 f1, .int .i64 f2]] w fun e w' => e = .returned (.bool true) ∧ Below w.heap.size w w' := by
  obtain ⟨W0, hW0⟩ : ∃ W0, (((w.alloc (.cells #[.int .i64 a1, .int .i64 a2] 27)).alloc (.cells #[.int .i64 b1, .int .i64 b2] 27)).alloc (.cells #[.int .i64 f1, .int .i64 f2] 28)) = W0 := ⟨_, rfl⟩
  have HB0 : Hid (Below w.heap.size w W0) := by
    unfold Hid; rw [← hW0]
    repeat (first | exact Below.refl _ _ | refine Below.alloc ?_ (by simp <;> omega) _)
  have HA0 : Hid (W0.heap[w.heap.size]? = some (.cells #[.int .i64 a1, .int .i64 a2] 27)) := by
    unfold Hid; rw [← hW0]; simp only [heap_alloc_at, World.size_alloc]; repeat (first | rw [if_pos trivial] | rw [if_neg (by omega)])
  have HC0 : Hid (W0.heap[w.heap.size + 1]? = some (.cells #[.int .i64 b1, .int .i64 b2] 27)) := by
    unfold Hid; rw [← hW0]; simp only [heap_alloc_at, World.size_alloc]; repeat (first | rw [if_pos trivial] | rw [if_neg (by omega)])
  have HF0 : Hid (W0.heap[w.heap.size + 1 + 1]? = some (.cells #[.int .i64 f1, .int .i64 f2] 28)) := by
    unfold Hid; rw [← hW0]; simp only [heap_alloc_at, World.size_alloc]; repeat (first | rw [if_pos trivial] | rw [if_neg (by omega)])
  have HW0 := Lib.hid hW0
  clear hW0
  go_enter Try.func10, Try.ntmps10
  go_wp2_with fail
  rw [HW0.out]
  refine (add_any (a1, a2) (b1, b2) _).mono ?_
  rintro e w1 ⟨rfl, hb1⟩
  generalize hp : addR (a1, a2) (b1, b2) = Rp
  have HHp := Lib.hid hp
  obtain ⟨⟨p1, p2⟩, pe⟩ := Rp
  clear hp
  have HA1 := Lib.hid (blk hb1 HA0.out)
  have HC1 := Lib.hid (blk hb1 HC0.out)
  have HF1 := Lib.hid (blk hb1 HF0.out)
  have HB1 := Lib.hid (HB0.out.trans (hb1.mono HB0.out.size))
  clear hb1
  obtain ⟨⟨a_0, a_1⟩, _⟩ := cells2 HA1.out
  have z_a := blk_lt HA1.out
  obtain ⟨⟨c_0, c_1⟩, _⟩ := cells2 HC1.out
  have z_c := blk_lt HC1.out
  obtain ⟨⟨f_0, f_1⟩, _⟩ := cells2 HF1.out
  have z_f := blk_lt HF1.out
  have HP1 := Lib.hid (blk_new w1 (.cells #[.int .i64 p1, .int .i64 p2] 27))
  go_wp2_with fail
  refine (radd_any (a1, a2) (b1, b2) _).mono ?_
  rintro e w2 ⟨rfl, hb2⟩
  rw [HHp.out]
  have HA2 := Lib.hid (blk hb2 (blk_old _ HA1.out))
  have HC2 := Lib.hid (blk hb2 (blk_old _ HC1.out))
  have HF2 := Lib.hid (blk hb2 (blk_old _ HF1.out))
  have HP2 := Lib.hid (blk hb2 HP1.out)
  have HB2 := Lib.hid ((below_alloc HB1.out _).trans (hb2.mono (below_alloc HB1.out _).size))
  clear a_0 a_1 z_a c_0 c_1 z_c f_0 f_1 z_f
  clear hb2
  obtain ⟨⟨a_0, a_1⟩, _⟩ := cells2 HA2.out
  have z_a := blk_lt HA2.out
  obtain ⟨⟨c_0, c_1⟩, _⟩ := cells2 HC2.out
  have z_c := blk_lt HC2.out
  obtain ⟨⟨f_0, f_1⟩, _⟩ := cells2 HF2.out
  have z_f := blk_lt HF2.out
  obtain ⟨⟨p_0, p_1⟩, _⟩ := cells2 HP2.out
  have z_p := blk_lt HP2.out
  have HQ2 := Lib.hid (blk_new w2 (.cells #[.int .i64 p1, .int .i64 p2] 27))
  go_wp2_with fail
  refine (times_any (a1, a2) (b1, b2) _).mono ?_
  rintro e w3 ⟨rfl, hb3⟩
  generalize hr : timesR (a1, a2) (b1, b2) = Rr
  have HHr := Lib.hid hr
  obtain ⟨⟨r1, r2⟩, re⟩ := Rr
  clear hr
  have HA3 := Lib.hid (blk hb3 (blk_old _ HA2.out))
  have HC3 := Lib.hid (blk hb3 (blk_old _ HC2.out))
  have HF3 := Lib.hid (blk hb3 (blk_old _ HF2.out))
  have HP3 := Lib.hid (blk hb3 (blk_old _ HP2.out))
  have HQ3 := Lib.hid (blk hb3 HQ2.out)
  have HB3 := Lib.hid ((below_alloc HB2.out _).trans (hb3.mono (below_alloc HB2.out _).size))
  clear a_0 a_1 z_a c_0 c_1 z_c f_0 f_1 z_f p_0 p_1 z_p
  clear hb3
  obtain ⟨⟨a_0, a_1⟩, _⟩ := cells2 HA3.out
  have z_a := blk_lt HA3.out
  obtain ⟨⟨c_0, c_1⟩, _⟩ := cells2 HC3.out
  have z_c := blk_lt HC3.out
  obtain ⟨⟨f_0, f_1⟩, _⟩ := cells2 HF3.out
  have z_f := blk_lt HF3.out
  obtain ⟨⟨p_0, p_1⟩, _⟩ := cells2 HP3.out
  have z_p := blk_lt HP3.out
  obtain ⟨⟨q_0, q_1⟩, _⟩ := cells2 HQ3.out
  have z_q := blk_lt HQ3.out
  have HR3 := Lib.hid (blk_new w3 (.cells #[.int .i64 r1, .int .i64 r2] 27))
  go_wp2_with fail
  refine (rtimes_any (a1, a2) (b1, b2) _).mono ?_
  rintro e w4 ⟨rfl, hb4⟩
  rw [HHr.out]
  have HA4 := Lib.hid (blk hb4 (blk_old _ HA3.out))
  have HC4 := Lib.hid (blk hb4 (blk_old _ HC3.out))
  have HF4 := Lib.hid (blk hb4 (blk_old _ HF3.out))
  have HP4 := Lib.hid (blk hb4 (blk_old _ HP3.out))
  have HQ4 := Lib.hid (blk hb4 (blk_old _ HQ3.out))
  have HR4 := Lib.hid (blk hb4 HR3.out)
  have HB4 := Lib.hid ((below_alloc HB3.out _).trans (hb4.mono (below_alloc HB3.out _).size))
  clear a_0 a_1 z_a c_0 c_1 z_c f_0 f_1 z_f p_0 p_1 z_p q_0 q_1 z_q
  clear hb4
  obtain ⟨⟨a_0, a_1⟩, _⟩ := cells2 HA4.out
  have z_a := blk_lt HA4.out
  obtain ⟨⟨c_0, c_1⟩, _⟩ := cells2 HC4.out
  have z_c := blk_lt HC4.out
  obtain ⟨⟨f_0, f_1⟩, _⟩ := cells2 HF4.out
  have z_f := blk_lt HF4.out
  obtain ⟨⟨p_0, p_1⟩, _⟩ := cells2 HP4.out
  have z_p := blk_lt HP4.out
  obtain ⟨⟨q_0, q_1⟩, _⟩ := cells2 HQ4.out
  have z_q := blk_lt HQ4.out
  obtain ⟨⟨r_0, r_1⟩, _⟩ := cells2 HR4.out
  have z_r := blk_lt HR4.out
  have HS4 := Lib.hid (blk_new w4 (.cells #[.int .i64 r1, .int .i64 r2] 27))
  go_wp2_with fail
  refine (part_any (a1, a2) f1 f2 _).mono ?_
  rintro e w5 ⟨rfl, hb5⟩
  generalize ht : partR (a1, a2) f1 f2 = Rt
  have HHt := Lib.hid ht
  obtain ⟨⟨t1, t2⟩, te⟩ := Rt
  clear ht
  have HA5 := Lib.hid (blk hb5 (blk_old _ HA4.out))
  have HC5 := Lib.hid (blk hb5 (blk_old _ HC4.out))
  have HF5 := Lib.hid (blk hb5 (blk_old _ HF4.out))
  have HP5 := Lib.hid (blk hb5 (blk_old _ HP4.out))
  have HQ5 := Lib.hid (blk hb5 (blk_old _ HQ4.out))
  have HR5 := Lib.hid (blk hb5 (blk_old _ HR4.out))
  have HS5 := Lib.hid (blk hb5 HS4.out)
  have HB5 := Lib.hid ((below_alloc HB4.out _).trans (hb5.mono (below_alloc HB4.out _).size))
  clear a_0 a_1 z_a c_0 c_1 z_c f_0 f_1 z_f p_0 p_1 z_p q_0 q_1 z_q r_0 r_1 z_r
  clear hb5
  obtain ⟨⟨a_0, a_1⟩, _⟩ := cells2 HA5.out
  have z_a := blk_lt HA5.out
  obtain ⟨⟨c_0, c_1⟩, _⟩ := cells2 HC5.out
  have z_c := blk_lt HC5.out
  obtain ⟨⟨f_0, f_1⟩, _⟩ := cells2 HF5.out
  have z_f := blk_lt HF5.out
  obtain ⟨⟨p_0, p_1⟩, _⟩ := cells2 HP5.out
  have z_p := blk_lt HP5.out
  obtain ⟨⟨q_0, q_1⟩, _⟩ := cells2 HQ5.out
  have z_q := blk_lt HQ5.out
  obtain ⟨⟨r_0, r_1⟩, _⟩ := cells2 HR5.out
  have z_r := blk_lt HR5.out
  obtain ⟨⟨s_0, s_1⟩, _⟩ := cells2 HS5.out
  have z_s := blk_lt HS5.out
  have HT5 := Lib.hid (blk_new w5 (.cells #[.int .i64 t1, .int .i64 t2] 27))
  go_wp2_with fail
  refine (rpart_any (a1, a2) f1 f2 _).mono ?_
  rintro e w6 ⟨rfl, hb6⟩
  rw [HHt.out]
  have HA6 := Lib.hid (blk hb6 (blk_old _ HA5.out))
  have HC6 := Lib.hid (blk hb6 (blk_old _ HC5.out))
  have HF6 := Lib.hid (blk hb6 (blk_old _ HF5.out))
  have HP6 := Lib.hid (blk hb6 (blk_old _ HP5.out))
  have HQ6 := Lib.hid (blk hb6 (blk_old _ HQ5.out))
  have HR6 := Lib.hid (blk hb6 (blk_old _ HR5.out))
  have HS6 := Lib.hid (blk hb6 (blk_old _ HS5.out))
  have HT6 := Lib.hid (blk hb6 HT5.out)
  have HB6 := Lib.hid ((below_alloc HB5.out _).trans (hb6.mono (below_alloc HB5.out _).size))
  clear a_0 a_1 z_a c_0 c_1 z_c f_0 f_1 z_f p_0 p_1 z_p q_0 q_1 z_q r_0 r_1 z_r s_0 s_1 z_s
  clear hb6
  obtain ⟨⟨a_0, a_1⟩, _⟩ := cells2 HA6.out
  have z_a := blk_lt HA6.out
  obtain ⟨⟨c_0, c_1⟩, _⟩ := cells2 HC6.out
  have z_c := blk_lt HC6.out
  obtain ⟨⟨f_0, f_1⟩, _⟩ := cells2 HF6.out
  have z_f := blk_lt HF6.out
  obtain ⟨⟨p_0, p_1⟩, _⟩ := cells2 HP6.out
  have z_p := blk_lt HP6.out
  obtain ⟨⟨q_0, q_1⟩, _⟩ := cells2 HQ6.out
  have z_q := blk_lt HQ6.out
  obtain ⟨⟨r_0, r_1⟩, _⟩ := cells2 HR6.out
  have z_r := blk_lt HR6.out
  obtain ⟨⟨s_0, s_1⟩, _⟩ := cells2 HS6.out
  have z_s := blk_lt HS6.out
  obtain ⟨⟨t_0, t_1⟩, _⟩ := cells2 HT6.out
  have z_t := blk_lt HT6.out
  have HU6 := Lib.hid (blk_new w6 (.cells #[.int .i64 t1, .int .i64 t2] 27))
  go_wp2_with fail
  refine (works_any _).mono ?_
  rintro e w9 ⟨rfl, hb9⟩
  have HB9 := Lib.hid ((below_alloc HB6.out _).trans (hb9.mono (below_alloc HB6.out _).size))
  clear hb9
  go_wp2_with fail
  go_ret
  exact ⟨rfl, HB9.out⟩
end Go.Proofs.Ytfaiogajaaclcaa
