/- Texts of the law TopCyclesCard, part 5. No conditions. -/
import Derived.Test.YtgibbaadjbohdaaDoorPTopCyclesCard04
set_option linter.unusedSimpArgs false
set_option linter.unusedVariables false
/- parts: end (views last). No conditions. -/
namespace Go.Proofs.YtgibbaadjbohdaaDoor
open Go Go.RowKit Lift

def st6 (C : List Int) (m pl fr t hh cc : Int) : List D := icells C ++ [dI m, dI pl, dI fr, dI t, dI hh, dI cc]
theorem st6_len (C : List Int) (m pl fr t hh cc : Int) : (st6 C m pl fr t hh cc).length = C.length + 6 := by simp [st6, icells_len]
theorem st6_at (C : List Int) (m pl fr t hh cc : Int) (k : Nat) : (st6 C m pl fr t hh cc)[C.length + k]? = [dI m, dI pl, dI fr, dI t, dI hh, dI cc][k]? := by
  unfold st6
  rw [List.getElem?_append_right (by rw [icells_len]; omega), icells_len, Nat.add_sub_cancel_left]
theorem st6_put (C : List Int) (m pl fr t hh cc : Int) (k : Nat) (v : D) : (st6 C m pl fr t hh cc).take (C.length + k) ++ [v] ++ (st6 C m pl fr t hh cc).drop (C.length + k + 1) = icells C ++ ([dI m, dI pl, dI fr, dI t, dI hh, dI cc].take k ++ [v] ++ [dI m, dI pl, dI fr, dI t, dI hh, dI cc].drop (k + 1)) := by
  unfold st6
  have e : C.length = (icells C).length := (icells_len C).symm
  rw [e, List.take_length_add_append, Nat.add_assoc, List.drop_length_add_append]
  simp only [List.append_assoc]
def flV (F : List (Int × Int)) : D := .at_ [.bot, .bot, .bot, .bot, .bot, .bot, .list (sps F), .bot, .bot]
theorem sps_at (F : List (Int × Int)) (k : Nat) (h : k < F.length) : (sps F)[k]? = some [.val (.int .i64 (F[k]?.getD (0, 0)).1), .val (.int .i64 (F[k]?.getD (0, 0)).2)] := by simp [sps, h]
set_option maxRecDepth 100000 in
set_option maxHeartbeats 8000000 in
theorem end_ac (F : List (Int × Int)) (g n : Nat) (C : List Int) (m pl fr t hh cc to : Int) (hC : C.length = n * 6) (hn : n ≤ 1000) (h0 : 0 ≤ m) (h1 : m.toNat < F.length) :
    AC Tryd.prog 50 [flV F, .vec g (n + 1) 6, dI to] [(g, st6 C m pl fr t hh cc)] [(g, some (st6 C m pl fr to (w64 ((F[m.toNat]?.getD (0, 0)).1 - hh)) (w64 ((F[m.toNat]?.getD (0, 0)).2 - cc))))] (.tup []) := by
  refine kpparts_hangar_end.ac (n0 := g + 1) (by simp) ⟨.at_ _, .vec _ _ _ (by omega), .val _, trivial⟩ ⟨⟨by simp only; omega, fun d hd => ?_⟩, trivial⟩ ?_ ?_
  · unfold st6 at hd
    rcases List.mem_append.1 hd with hd | hd
    · obtain ⟨x, _, rfl⟩ := List.mem_map.1 hd; exact .val _
    · simp at hd; rcases hd with rfl | rfl | rfl | rfl | rfl | rfl <;> exact .val _
  · simp [okUp, st6]
  unfold cpparts_hangar_end flV
  have a0 : ∀ t' hh' cc', (st6 C m pl fr t' hh' cc')[n * 6]? = some (dI m) := fun t' hh' cc' => by have := st6_at C m pl fr t' hh' cc' 0; rw [hC] at this; exact this
  have a4 : ∀ t' hh' cc', (st6 C m pl fr t' hh' cc')[n * 6 + 4]? = some (dI hh') := fun t' hh' cc' => by have := st6_at C m pl fr t' hh' cc' 4; rw [hC] at this; exact this
  have a5 : ∀ t' hh' cc', (st6 C m pl fr t' hh' cc')[n * 6 + 5]? = some (dI cc') := fun t' hh' cc' => by have := st6_at C m pl fr t' hh' cc' 5; rw [hC] at this; exact this
  have p3 : ∀ t' hh' cc' x, (st6 C m pl fr t' hh' cc').take (n * 6 + 3) ++ [dI x] ++ (st6 C m pl fr t' hh' cc').drop (n * 6 + 3 + 1) = st6 C m pl fr x hh' cc' := fun t' hh' cc' x => by have := st6_put C m pl fr t' hh' cc' 3 (dI x); rw [hC] at this; exact this
  have p4 : ∀ t' hh' cc' x, (st6 C m pl fr t' hh' cc').take (n * 6 + 4) ++ [dI x] ++ (st6 C m pl fr t' hh' cc').drop (n * 6 + 4 + 1) = st6 C m pl fr t' x cc' := fun t' hh' cc' x => by have := st6_put C m pl fr t' hh' cc' 4 (dI x); rw [hC] at this; exact this
  have p5 : ∀ t' hh' cc' x, (st6 C m pl fr t' hh' cc').take (n * 6 + 5) ++ [dI x] ++ (st6 C m pl fr t' hh' cc').drop (n * 6 + 5 + 1) = st6 C m pl fr t' hh' x := fun t' hh' cc' x => by have := st6_put C m pl fr t' hh' cc' 5 (dI x); rw [hC] at this; exact this
  have l3 : ∀ t' hh' cc', n * 6 + 3 + 1 ≤ (st6 C m pl fr t' hh' cc').length := fun t' hh' cc' => by rw [st6_len]; omega
  have l4 : ∀ t' hh' cc', n * 6 + 4 + 1 ≤ (st6 C m pl fr t' hh' cc').length := fun t' hh' cc' => by rw [st6_len]; omega
  have l5 : ∀ t' hh' cc', n * 6 + 5 + 1 ≤ (st6 C m pl fr t' hh' cc').length := fun t' hh' cc' => by rw [st6_len]; omega
  have gF := sps_at F m.toNat h1
  have sa := sps_all F
  have k1 : ((n + 1 : Nat) : Int) - 1 = (n : Int) := by omega
  have k2 : (n : Int) < ((n + 1 : Nat) : Int) := by omega
  generalize F[m.toNat]?.getD (0, 0) = x at *
  unfold dI at a0 a4 a5 p3 p4 p5
  unfold w64
  (repeat' (first | (with_reducible first | refine thenQ_n ?_ | refine blockQ_n ?_ | refine thenQ_e ?_ | refine blockQ_t ?_ | refine blockQ_f (by decide) ?_) | apply aw_seq | apply aw_skip | apply aw_exit | apply aw_ret | apply aw_block | apply aw_condT rfl | apply aw_condF rfl | ((first | refine aw_hide fun K hK => aw_region ?_ | refine ago_if (by omega) ?_ | skip); simp (disch := first | exact okY | omega) only [ZU, Nat.reduceAdd, Nat.reduceMul, dI, AOpRun, aexec, Nat.reduceBEq, ↓eget_h, isSh, ↓reduceIte, abin, k1, fits, k2, D.isBot, D.cells, l3, List.all, D.leaf, splice, p3, List.drop, run1, Nat.add_zero, a0, h0, sa, opt1, gF, Int.le_refl, cast_lit, Int.reduceLT, Int.toNat_zero, a4, Int.reduceLE, Int.reduceToNat, a5, l4, p4, l5, p5]) | subst hK))
  have hin : ∀ d ∈ st6 C m pl fr to (IntKind.i64.wrap (x.1 - hh)) (IntKind.i64.wrap (x.2 - cc)), In (fun _ => False) d := fun d hd => by
    unfold st6 at hd
    rcases List.mem_append.1 hd with hd | hd
    · obtain ⟨x, _, rfl⟩ := List.mem_map.1 hd; exact .val _
    · simp at hd; rcases hd with rfl | rfl | rfl | rfl | rfl | rfl <;> exact .val _
  refine end_to [] [(g, g)] (.inl rfl) rfl rfl rfl (by simp [okEnd]) (vr_tup (vrl_flat _ (by simp))) ?_
  exact ⟨⟨g, by simp [List.lookup], _, if_pos rfl, by simp, vrl_flat _ hin⟩, trivial⟩
end Go.Proofs.YtgibbaadjbohdaaDoor
/- parts: fit that succeeds (views last; symbolic names). No conditions. -/
namespace Go.Proofs.YtgibbaadjbohdaaDoor
open Go Go.RowKit Lift

def ftP (S : Hg) (p : Prt) (m pl : Int) : Bool := ((p.m == -1 && p.pl == -1) && p.kn) && (wI pl 0 (w64 ((kdOf S p).p - 1)) && !decide (atI S p.kd m pl ≥ 0))
def ftB (S : Hg) (n m pl : Int) : Bool := (partB S n && machB S m) && ftP S (prtAt S n.toNat) m pl
def ftN (S : Hg) (p : Prt) (m pl : Int) (nm : Nat) : Prt := { p with m := m, pl := pl, hist := p.hist ++ [[m, pl, S.works, -1, (S.fl[m.toNat]?.getD (0, 0)).1, (S.fl[m.toNat]?.getD (0, 0)).2]], hn := nm }
def ftS (S : Hg) (N : Nat) (n m pl : Int) : Hg := if ftB S n m pl = true then S.setP n.toNat (ftN S (prtAt S n.toNat) m pl (N + 872)) else S
theorem flat6 : ∀ l : List (List Int), (∀ r ∈ l, r.length = 6) → l.flatten.length = l.length * 6
  | [], _ => rfl
  | r :: l, h => by
    have ih := flat6 l fun r hr => h r (List.mem_cons_of_mem _ hr)
    have h1 := h r (List.mem_cons_self ..)
    simp only [List.flatten_cons, List.length_append, List.length_cons, ih, h1]
    omega
theorem hs_nth {l : List Prt} {i : Nat} {p : Prt} (h : l[i]? = some p) : (hsC l)[i]? = some (.vec p.hn p.hist.length 6) := by simp [hsC, h]
theorem fit_hp {S : Hg} {top i nm : Nat} {p : Prt} {m pl : Int} {tl : Hp} (hN : HgN S top) (hi : S.pts[i]? = some p) (hnm : top ≤ nm) (ht : hget tl nm = some (icells p.hist.flatten ++ [dI m, dI pl, dI S.works, dI (-1), dI (S.fl[m.toNat]?.getD (0, 0)).1, dI (S.fl[m.toNat]?.getD (0, 0)).2]))
    {g : Nat} {c : List D} (h : hget (HF (S.setP i (ftN S p m pl nm)) []) g = some c) :
    hget (hput (hdel (HF (S.setP i { p with m := m, pl := pl }) tl) p.hn) 1088 (List.take i (hsC (S.setP i { p with m := m, pl := pl }).pts) ++ [.vec nm (p.hist.length + 1) 6] ++ List.drop (i + 1) (hsC (S.setP i { p with m := m, pl := pl }).pts))) g = some c := by
  have hN1 : HgN (S.setP i { p with m := m, pl := pl }) top := setP_N hN hi rfl
  have hp1 : (S.setP i { p with m := m, pl := pl }).pts[i]? = some { p with m := m, pl := pl } := setP_at hi
  have hp2 : (S.setP i (ftN S p m pl nm)).pts[i]? = some (ftN S p m pl nm) := setP_at hi
  have hother : ∀ (j : Nat) (q : Prt), j ≠ i → (S.setP i (ftN S p m pl nm)).pts[j]? = some q → (S.setP i { p with m := m, pl := pl }).pts[j]? = some q ∧ q.hn ≠ p.hn := fun j q hj hq => by
    have h0 : S.pts[j]? = some q := by
      unfold Hg.setP at hq
      simp only [List.getElem?_set] at hq
      rwa [if_neg (fun e => hj e.symm)] at hq
    refine ⟨?_, fun e => hj (hN.nd j i q p h0 hi e)⟩
    unfold Hg.setP
    simp only [List.getElem?_set]
    rw [if_neg (fun e => hj e.symm)]; exact h0
  have hpn := hN.hn p (List.mem_of_getElem? hi)
  have htp := hN.tp
  have hil := idx_lt hi
  have hn24 := hN.n
  have hpv := hN.pv
  generalize hS1 : S.setP i { p with m := m, pl := pl } = S1 at *
  have skip : ∀ {g : Nat} {c : List D}, 1088 ≠ g → p.hn ≠ g → hget (HF S1 tl) g = some c → hget (hput (hdel (HF S1 tl) p.hn) 1088 (List.take i (hsC S1.pts) ++ [.vec nm (p.hist.length + 1) 6] ++ List.drop (i + 1) (hsC S1.pts))) g = some c := fun h1 h2 h3 => by
    rw [hget_hput, if_neg h1, hget_hdel, if_neg h2]; exact h3
  rcases HF_cases h with ⟨rfl, rfl⟩ | ⟨rfl, rfl⟩ | ⟨rfl, rfl⟩ | ⟨rfl, rfl⟩ | ⟨rfl, rfl⟩ | ⟨j, q, hq, h⟩
  · refine skip (by omega) (by omega) ?_
    rw [get_hg, ← hS1]
    unfold hgrC Hg.setP
    simp only [List.length_set]
  · refine skip (by omega) (by omega) ?_
    rw [get_is, ← hS1]; rfl
  · refine skip (by omega) (by omega) ?_
    rw [get_fl, ← hS1]; rfl
  · rw [hget_hput, if_pos rfl]
    have e : hsC (S.setP i (ftN S p m pl nm)).pts = (hsC S1.pts).set i (.vec nm (p.hist.length + 1) 6) := by
      rw [← hS1]
      unfold hsC Hg.setP
      simp only [List.map_set, List.set_set]
      simp [ftN]
    have hl : (hsC S1.pts).length = S.pts.length := by rw [← hS1]; simp [hsC, Hg.setP]
    rw [e, List.set_eq_take_append_cons_drop, if_pos (by rw [hl]; exact hil)]
    simp
  · have e1 : (S.setP i (ftN S p m pl nm)).pv = S1.pv := by rw [← hS1]; rfl
    have e2 : (S.setP i (ftN S p m pl nm)).pts.length = S1.pts.length := by rw [← hS1]; simp [Hg.setP]
    have e3 : S1.pv = S.pv := by rw [← hS1]; rfl
    rw [e1, e2]
    refine skip (by rw [e3]; omega) (by rw [e3]; omega) (get_pv hN1 tl)
  · by_cases hj : j = i
    · subst hj
      rw [hp2] at hq
      cases hq
      rcases h with ⟨rfl, rfl⟩ | ⟨rfl, rfl⟩ | ⟨rfl, rfl⟩ | ⟨hg, rfl⟩
      · have := get_pN hN1 tl hp1
        exact skip (by unfold pN; omega) (by unfold pN; omega) this
      · have := get_sN hN1 tl hp1
        exact skip (by unfold sN; omega) (by unfold sN; omega) this
      · have := get_cN hN1 tl hp1
        exact skip (by unfold cN; omega) (by unfold cN; omega) this
      · have hg' : g = nm := hg
        refine skip (by rw [hg']; omega) (by rw [hg']; omega) ?_
        rw [hg', get_out hN1 tl hnm, ht]
        simp [ftN, icells, dI]
    · obtain ⟨h1, h2⟩ := hother j q hj hq
      have hqn := hN1.hn q (List.mem_of_getElem? h1)
      have hjl := idx_lt h1
      have hn1 := hN1.n
      rcases h with ⟨rfl, rfl⟩ | ⟨rfl, rfl⟩ | ⟨rfl, rfl⟩ | ⟨rfl, rfl⟩
      · exact skip (by unfold pN; omega) (by unfold pN; omega) (get_pN hN1 tl h1)
      · exact skip (by unfold sN; omega) (by unfold sN; omega) (get_sN hN1 tl h1)
      · exact skip (by unfold cN; omega) (by unfold cN; omega) (get_cN hN1 tl h1)
      · exact skip (by omega) (fun e => h2 e.symm) (get_hn hN1 tl h1)
set_option maxRecDepth 100000 in
set_option maxHeartbeats 8000000 in
theorem fit_yes {pin : List Nat} (S : Hg) (top N : Nat) (hS : HgrOk S) (hN : HgN S top) (hT : top ≤ N) (n m pl : Int) (hrow : ∀ p ∈ S.pts, (∀ r ∈ p.hist, r.length = 6) ∧ p.hist.length ≤ 1000)
    (b1 : partB S n = true) (b2 : machB S m = true) (m0 : 0 ≤ m) (m1 : m.toNat < S.fl.length) (p : Prt) (hp : S.pts[n.toNat]? = some p) (n0 : 0 ≤ n) (n1 : n.toNat < S.pts.length) (hf : ftP S p m pl = true) :
    AWb false Tryd.prog 117 pin cpparts_hangar_fit (fun e s' => (e = .norm ∨ e = .ret) ∧ Wk pin s' ⟨[(8, dB true)], HF (S.setP n.toNat (ftN S p m pl (N + 872))) [], N + 600000⟩)
      ⟨envOf 0 [.ptr 1104 0, dI n, dI m, dI pl], HF S [], N⟩ := by
  unfold cpparts_hangar_fit
  have c1 := part_ac S n
  have c2 := mach_ac S m
  rw [b1] at c1
  rw [b2] at c2
  have hpo := hS.at hp
  have hnp := hS.np
  obtain ⟨x, hx⟩ := nthI hpo.k1
  have hk0 := hpo.k0
  have ek : kdOf S p = x := by unfold kdOf; rw [hx]; rfl
  have gc := hg_cells S
  unfold dI at gc
  have nl : n < (S.pts.length : Int) := by omega
  have gv := get_pv hN
  have gn := pvC_nth n1
  have gp := part_cells hN hp
  unfold dI dB at gp
  have g2 := kds_nth S.rg.ks _ x hx
  have ga := kds_all S.rg.ks
  unfold kdC dI at g2
  have po := fun tl k h => put_out hN tl (k := k) h
  have go := fun tl k h => get_out hN tl (k := k) h
  have c3 := pwithin_ac pl 0 (w64 (x.p - 1))
  have c4 := hat_ac S p.kd m pl (by omega)
  unfold ftP at hf
  rw [ek] at hf
  unfold w64 at c3 hf
  generalize hA : atI S p.kd m pl = A at *
  simp only [Bool.and_eq_true, Bool.not_eq_true'] at hf
  obtain ⟨⟨⟨q1, q2⟩, q3⟩, b3, q4⟩ := hf
  rw [b3] at c3
  have bn1 : (false != true) = true := rfl
  have bn2 : (true != true) = false := rfl
  -- behind the store
  obtain ⟨hr1, hr2⟩ := hrow p (List.mem_of_getElem? hp)
  have hpn := hN.hn p (List.mem_of_getElem? hp)
  have hf6 := flat6 p.hist hr1
  have hN1 : HgN (S.setP n.toNat { p with m := m, pl := pl }) top := setP_N hN hp rfl
  have hp1 : (S.setP n.toNat { p with m := m, pl := pl }).pts[n.toNat]? = some { p with m := m, pl := pl } := setP_at hp
  have pp := fun tl => put_pN hN tl (p' := { p with m := m, pl := pl }) hp rfl rfl rfl rfl
  unfold ptC dI dB at pp
  have gc1 := hg_cells (S.setP n.toNat { p with m := m, pl := pl })
  have e1 : (S.setP n.toNat { p with m := m, pl := pl }).pts.length = S.pts.length := by simp [Hg.setP]
  simp only [e1] at gc1
  have gh := get_hs (S.setP n.toNat { p with m := m, pl := pl })
  have gh2 := hs_nth hp1
  have gn1 := fun tl => get_hn hN1 tl hp1
  have gf1 := get_fl (S.setP n.toNat { p with m := m, pl := pl })
  have po1 := fun tl k h => put_out hN1 tl (k := k) h
  have go1 := fun tl k h => get_out hN1 tl (k := k) h
  have hhl : (hsC (S.setP n.toNat { p with m := m, pl := pl }).pts).length = S.pts.length := by unfold hsC; rw [List.length_map, e1]
  have hrg : (S.setP n.toNat { p with m := m, pl := pl }).rg = S.rg := rfl
  have hfl : (S.setP n.toNat { p with m := m, pl := pl }).fl = S.fl := rfl
  have hwk : (S.setP n.toNat { p with m := m, pl := pl }).works = S.works := rfl
  have his : (S.setP n.toNat { p with m := m, pl := pl }).iss = S.iss := rfl
  have hpv : (S.setP n.toNat { p with m := m, pl := pl }).pv = S.pv := rfl
  simp only [hrg, hfl, hwk, his, hpv] at gc1 gf1
  unfold dI at gc1
  have f0 := sc_get0 S.fl m.toNat m1
  have f1 := sc_get1 S.fl m.toNat m1
  have gd : ∀ tl, hget (hdel (HF (S.setP n.toNat { p with m := m, pl := pl }) tl) p.hn) 1088 = some (hsC (S.setP n.toNat { p with m := m, pl := pl }).pts) := fun tl => by
    rw [hget_hdel, if_neg (by omega)]; exact get_hs _ tl
  have hle : p.hist.length * 6 ≤ (icells p.hist.flatten).length := by rw [icells_len]; omega
  have tk : (icells p.hist.flatten).take (p.hist.length * 6) = icells p.hist.flatten := List.take_of_length_le (by rw [icells_len]; omega)
  have hle2 : n.toNat + 1 ≤ (hsC (S.setP n.toNat { p with m := m, pl := pl }).pts).length := by rw [hhl]; omega
  have ml : m < (S.fl.length : Int) := by omega
  have hN5 := hN.tp
  generalize hS1 : S.setP n.toNat { p with m := m, pl := pl } = S1 at *
  simp only [q3] at pp
  have nn1 : (N + 8 + 80 + 80 == N + 8 + 80 + 104 + 352 + 40 + 280) = false := beq_eq_false_iff_ne.mpr (by omega)
  have nn2 : (N + 8 + 80 + 80 == N + 8 + 80 + 104 + 352 + 40 + 288) = false := beq_eq_false_iff_ne.mpr (by omega)
  have nn3 : (N + 8 + 80 + 104 + 352 + 40 + 280 == N + 8 + 80 + 104 + 352 + 40 + 288) = false := beq_eq_false_iff_ne.mpr (by omega)
  (repeat' (first | (with_reducible first | refine thenQ_n ?_ | refine blockQ_n ?_ | refine thenQ_e ?_ | refine blockQ_t ?_ | refine blockQ_f (by decide) ?_) | apply aw_seq | apply aw_skip | apply aw_exit | apply aw_ret | apply aw_block | apply aw_condT rfl | apply aw_condF rfl | ((first | refine aw_hide fun K hK => aw_region ?_ | refine acallS hN c1 (.val _) rfl (by kernel_rfl) ?_ | refine acallS hN c2 (.val _) rfl (by kernel_rfl) ?_ | refine acall0 (c3) ?_ | refine acallS hN c4 (.val _) rfl (by kernel_rfl) ?_ | refine ago_if (by omega) ?_ | skip); simp (disch := first | omega | (simp [okLog] <;> omega)) only [ZU, Nat.mul_one, dI, Nat.reduceAdd, AOpRun, aexec, Nat.reduceBEq, Nat.reduceMul, ↓eget_h, dB, ARun_some, AG_ff, ↓reduceIte, run1, gc, Nat.add_zero, n0, nl, gv, gn, fillD, D.isBot, D.cells, ne_eq, not_true_eq_false, Nat.reduceGT, or_self, splice, List.take, List.drop, go, po, ↓hget_h, Nat.reduceLeDiff, List.all, D.leaf, gp, q3, GL, Int.reduceNeg, D.isAgg, isB, eqCells, scalarEq, q1, q2, bne_self_eq_false, hk0, ga, opt1, g2, isSh, abin, q4, pp, gc1, gh, gh2, m0, ml, Int.le_refl, cast_lit, Int.reduceLT, Int.toNat_zero, gf1, f0, Int.reduceLE, Int.reduceToNat, f1, go1, nn1, po1, base, gn1, hle, tk, elems, nn2, nn3, and_true, ups, gd, hle2, reduceCtorEq, or_true, true_and]) | subst hK))
  have hend := fun (tl : Hp) (ht) (g : Nat) (c : List D) => fit_hp (S := S) (i := n.toNat) (p := p) (m := m) (pl := pl) (tl := tl) (nm := N + 872) (g := g) (c := c) hN hp (by omega) ht
  rw [hS1] at hend
  refine wk_env ⟨rfl, trivial⟩ (fun g c h => hend _ ?_ g c h) (by simp only; omega)
  rw [show N + 872 = N + 8 + 80 + 104 + 352 + 40 + 288 by omega, hget_skip (by omega), hget_skip (by omega)]
  exact hget_head
end Go.Proofs.YtgibbaadjbohdaaDoor
/- parts: fit (views last). No conditions. -/
namespace Go.Proofs.YtgibbaadjbohdaaDoor
open Go Go.RowKit Lift

set_option maxRecDepth 100000 in
set_option maxHeartbeats 8000000 in
theorem fit_in {pin : List Nat} (S : Hg) (top N : Nat) (hS : HgrOk S) (hN : HgN S top) (hT : top ≤ N) (n m pl : Int) (hm : machB S m = true → 0 ≤ m ∧ m.toNat < S.fl.length) (hrow : ∀ p ∈ S.pts, (∀ r ∈ p.hist, r.length = 6) ∧ p.hist.length ≤ 1000) :
    AWb false Tryd.prog 117 pin cpparts_hangar_fit (fun e s' => (e = .norm ∨ e = .ret) ∧ Wk pin s' ⟨[(8, dB (ftB S n m pl))], HF (ftS S N n m pl) [], N + 600000⟩)
      ⟨envOf 0 [.ptr 1104 0, dI n, dI m, dI pl], HF S [], N⟩ := by
  unfold cpparts_hangar_fit ftS
  have c1 := part_ac S n
  have c2 := mach_ac S m
  cases b1 : partB S n
  case false =>
    rw [b1] at c1
    have hb : ftB S n m pl = false := by unfold ftB; rw [b1]; rfl
    rw [hb, if_neg (by simp)]
    (repeat' (first | (with_reducible first | refine thenQ_n ?_ | refine blockQ_n ?_ | refine thenQ_e ?_ | refine blockQ_t ?_ | refine blockQ_f (by decide) ?_) | apply aw_seq | apply aw_skip | apply aw_exit | apply aw_ret | apply aw_block | apply aw_condT rfl | apply aw_condF rfl | ((first | refine aw_hide fun K hK => aw_region ?_ | refine acallS hN c1 (.val _) rfl (by kernel_rfl) ?_ | refine ago_if (by omega) ?_ | skip); simp (disch := first | exact okY | omega) only [ZU, Nat.reduceMul, dI, Nat.reduceAdd, AOpRun, aexec, Nat.reduceBEq, ↓eget_h, dB, ARun_some, AG_tf, ↓reduceIte, reduceCtorEq, or_true, true_and]) | subst hK))
    all_goals ((first | refine ⟨.inr rfl, ?_⟩ | refine ⟨.inl rfl, ?_⟩ | skip) <;> exact wk_env (by repeat' (first | exact trivial | exact rfl | refine And.intro ?_ ?_)) (by first | exact fun _ _ h => h | exact fun _ _ h => HF_tl h) (by simp only; omega))
  cases b2 : machB S m
  case false =>
    rw [b1] at c1
    rw [b2] at c2
    have hb : ftB S n m pl = false := by unfold ftB; rw [b1, b2]; rfl
    rw [hb, if_neg (by simp)]
    (repeat' (first | (with_reducible first | refine thenQ_n ?_ | refine blockQ_n ?_ | refine thenQ_e ?_ | refine blockQ_t ?_ | refine blockQ_f (by decide) ?_) | apply aw_seq | apply aw_skip | apply aw_exit | apply aw_ret | apply aw_block | apply aw_condT rfl | apply aw_condF rfl | ((first | refine aw_hide fun K hK => aw_region ?_ | refine acallS hN c1 (.val _) rfl (by kernel_rfl) ?_ | refine acallS hN c2 (.val _) rfl (by kernel_rfl) ?_ | refine ago_if (by omega) ?_ | skip); simp (disch := first | exact okY | omega) only [ZU, Nat.reduceMul, dI, Nat.reduceAdd, AOpRun, aexec, Nat.reduceBEq, ↓eget_h, dB, ARun_some, AG_ff, ↓reduceIte, reduceCtorEq, or_true, true_and]) | subst hK))
    all_goals ((first | refine ⟨.inr rfl, ?_⟩ | refine ⟨.inl rfl, ?_⟩ | skip) <;> exact wk_env (by repeat' (first | exact trivial | exact rfl | refine And.intro ?_ ?_)) (by first | exact fun _ _ h => h | exact fun _ _ h => HF_tl h) (by simp only; omega))
  obtain ⟨n0, n1⟩ := partB_t hS.np b1
  obtain ⟨m0, m1⟩ := hm b2
  rw [b1] at c1
  rw [b2] at c2
  obtain ⟨p, hp⟩ := nthI n1
  have ep : prtAt S n.toNat = p := by unfold prtAt; rw [hp]; rfl
  have eb : ftB S n m pl = ftP S p m pl := by unfold ftB; rw [b1, b2, ep]; rfl
  rw [eb, ep]
  by_cases hf : ftP S p m pl = true
  · rw [hf, if_pos rfl]
    exact fit_yes S top N hS hN hT n m pl hrow b1 b2 m0 m1 p hp n0 n1 hf
  have hf : ftP S p m pl = false := by simpa using hf
  rw [hf, if_neg (by simp)]
  have hpo := hS.at hp
  have hnp := hS.np
  obtain ⟨x, hx⟩ := nthI hpo.k1
  have hk0 := hpo.k0
  have ek : kdOf S p = x := by unfold kdOf; rw [hx]; rfl
  have gc := hg_cells S
  unfold dI at gc
  have nl : n < (S.pts.length : Int) := by omega
  have gv := get_pv hN
  have gn := pvC_nth n1
  have gp := part_cells hN hp
  unfold dI dB at gp
  have g2 := kds_nth S.rg.ks _ x hx
  have ga := kds_all S.rg.ks
  unfold kdC dI at g2
  have po := fun tl k h => put_out hN tl (k := k) h
  have go := fun tl k h => get_out hN tl (k := k) h
  have c3 := pwithin_ac pl 0 (w64 (x.p - 1))
  have c4 := hat_ac S p.kd m pl (by omega)
  unfold ftP at hf
  rw [ek] at hf
  unfold w64 at c3 hf
  generalize hA : atI S p.kd m pl = A at *
  have bn1 : (false != true) = true := rfl
  have bn2 : (true != true) = false := rfl
  cases q1 : (p.m == -1)
  case false =>
    (repeat' (first | (with_reducible first | refine thenQ_n ?_ | refine blockQ_n ?_ | refine thenQ_e ?_ | refine blockQ_t ?_ | refine blockQ_f (by decide) ?_) | apply aw_seq | apply aw_skip | apply aw_exit | apply aw_ret | apply aw_block | apply aw_condT rfl | apply aw_condF rfl | ((first | refine aw_hide fun K hK => aw_region ?_ | refine acallS hN c1 (.val _) rfl (by kernel_rfl) ?_ | refine acallS hN c2 (.val _) rfl (by kernel_rfl) ?_ | refine ago_if (by omega) ?_ | skip); simp (disch := first | exact okY | omega) only [ZU, Nat.mul_one, dI, Nat.reduceAdd, AOpRun, aexec, Nat.reduceBEq, Nat.reduceMul, ↓eget_h, dB, ARun_some, AG_ff, ↓reduceIte, run1, gc, Nat.add_zero, n0, nl, gv, gn, fillD, D.isBot, D.cells, ne_eq, not_true_eq_false, Nat.reduceGT, or_self, splice, List.take, List.drop, go, po, ↓hget_h, Nat.reduceLeDiff, List.all, D.leaf, gp, GL, Int.reduceNeg, D.isAgg, isB, eqCells, scalarEq, q1, Bool.false_and, bn1, AG_tf, reduceCtorEq, or_true, true_and]) | subst hK))
    all_goals ((first | refine ⟨.inr rfl, ?_⟩ | refine ⟨.inl rfl, ?_⟩ | skip) <;> exact wk_env (by repeat' (first | exact trivial | exact rfl | refine And.intro ?_ ?_)) (by first | exact fun _ _ h => h | exact fun _ _ h => HF_tl h) (by simp only; omega))
  cases q2 : (p.pl == -1)
  case false =>
    (repeat' (first | (with_reducible first | refine thenQ_n ?_ | refine blockQ_n ?_ | refine thenQ_e ?_ | refine blockQ_t ?_ | refine blockQ_f (by decide) ?_) | apply aw_seq | apply aw_skip | apply aw_exit | apply aw_ret | apply aw_block | apply aw_condT rfl | apply aw_condF rfl | ((first | refine aw_hide fun K hK => aw_region ?_ | refine acallS hN c1 (.val _) rfl (by kernel_rfl) ?_ | refine acallS hN c2 (.val _) rfl (by kernel_rfl) ?_ | refine ago_if (by omega) ?_ | skip); simp (disch := first | exact okY | omega) only [ZU, Nat.mul_one, dI, Nat.reduceAdd, AOpRun, aexec, Nat.reduceBEq, Nat.reduceMul, ↓eget_h, dB, ARun_some, AG_ff, ↓reduceIte, run1, gc, Nat.add_zero, n0, nl, gv, gn, fillD, D.isBot, D.cells, ne_eq, not_true_eq_false, Nat.reduceGT, or_self, splice, List.take, List.drop, go, po, ↓hget_h, Nat.reduceLeDiff, List.all, D.leaf, gp, GL, Int.reduceNeg, D.isAgg, isB, eqCells, scalarEq, q1, q2, Bool.and_false, bn1, AG_tf, reduceCtorEq, or_true, true_and]) | subst hK))
    all_goals ((first | refine ⟨.inr rfl, ?_⟩ | refine ⟨.inl rfl, ?_⟩ | skip) <;> exact wk_env (by repeat' (first | exact trivial | exact rfl | refine And.intro ?_ ?_)) (by first | exact fun _ _ h => h | exact fun _ _ h => HF_tl h) (by simp only; omega))
  cases q3 : p.kn
  case false =>
    (repeat' (first | (with_reducible first | refine thenQ_n ?_ | refine blockQ_n ?_ | refine thenQ_e ?_ | refine blockQ_t ?_ | refine blockQ_f (by decide) ?_) | apply aw_seq | apply aw_skip | apply aw_exit | apply aw_ret | apply aw_block | apply aw_condT rfl | apply aw_condF rfl | ((first | refine aw_hide fun K hK => aw_region ?_ | refine acallS hN c1 (.val _) rfl (by kernel_rfl) ?_ | refine acallS hN c2 (.val _) rfl (by kernel_rfl) ?_ | refine ago_if (by omega) ?_ | skip); simp (disch := first | exact okY | omega) only [ZU, Nat.mul_one, dI, Nat.reduceAdd, AOpRun, aexec, Nat.reduceBEq, Nat.reduceMul, ↓eget_h, dB, ARun_some, AG_ff, ↓reduceIte, run1, gc, Nat.add_zero, n0, nl, gv, gn, fillD, D.isBot, D.cells, ne_eq, not_true_eq_false, Nat.reduceGT, or_self, splice, List.take, List.drop, go, po, ↓hget_h, Nat.reduceLeDiff, List.all, D.leaf, gp, q3, GL, Int.reduceNeg, D.isAgg, isB, eqCells, scalarEq, q1, q2, bne_self_eq_false, AG_tf, reduceCtorEq, or_true, true_and]) | subst hK))
    all_goals ((first | refine ⟨.inr rfl, ?_⟩ | refine ⟨.inl rfl, ?_⟩ | skip) <;> exact wk_env (by repeat' (first | exact trivial | exact rfl | refine And.intro ?_ ?_)) (by first | exact fun _ _ h => h | exact fun _ _ h => HF_tl h) (by simp only; omega))
  cases b3 : wI pl 0 (IntKind.i64.wrap (x.p - 1))
  case false =>
    rw [b3] at c3
    (repeat' (first | (with_reducible first | refine thenQ_n ?_ | refine blockQ_n ?_ | refine thenQ_e ?_ | refine blockQ_t ?_ | refine blockQ_f (by decide) ?_) | apply aw_seq | apply aw_skip | apply aw_exit | apply aw_ret | apply aw_block | apply aw_condT rfl | apply aw_condF rfl | ((first | refine aw_hide fun K hK => aw_region ?_ | refine acallS hN c1 (.val _) rfl (by kernel_rfl) ?_ | refine acallS hN c2 (.val _) rfl (by kernel_rfl) ?_ | refine acall0 (c3) ?_ | refine acallS hN c4 (.val _) rfl (by kernel_rfl) ?_ | refine ago_if (by omega) ?_ | skip); simp (disch := first | exact okY | omega) only [ZU, Nat.mul_one, dI, Nat.reduceAdd, AOpRun, aexec, Nat.reduceBEq, Nat.reduceMul, ↓eget_h, dB, ARun_some, AG_ff, ↓reduceIte, run1, gc, Nat.add_zero, n0, nl, gv, gn, fillD, D.isBot, D.cells, ne_eq, not_true_eq_false, Nat.reduceGT, or_self, splice, List.take, List.drop, go, po, ↓hget_h, Nat.reduceLeDiff, List.all, D.leaf, gp, q3, GL, Int.reduceNeg, D.isAgg, isB, eqCells, scalarEq, q1, q2, bne_self_eq_false, hk0, ga, opt1, g2, isSh, abin, AG_tf, reduceCtorEq, or_true, true_and]) | subst hK))
    all_goals ((first | refine ⟨.inr rfl, ?_⟩ | refine ⟨.inl rfl, ?_⟩ | skip) <;> exact wk_env (by repeat' (first | exact trivial | exact rfl | refine And.intro ?_ ?_)) (by first | exact fun _ _ h => h | exact fun _ _ h => HF_tl h) (by simp only; omega))
  rw [b3] at c3
  cases q4 : decide (A ≥ 0)
  case true =>
    (repeat' (first | (with_reducible first | refine thenQ_n ?_ | refine blockQ_n ?_ | refine thenQ_e ?_ | refine blockQ_t ?_ | refine blockQ_f (by decide) ?_) | apply aw_seq | apply aw_skip | apply aw_exit | apply aw_ret | apply aw_block | apply aw_condT rfl | apply aw_condF rfl | ((first | refine aw_hide fun K hK => aw_region ?_ | refine acallS hN c1 (.val _) rfl (by kernel_rfl) ?_ | refine acallS hN c2 (.val _) rfl (by kernel_rfl) ?_ | refine acall0 (c3) ?_ | refine acallS hN c4 (.val _) rfl (by kernel_rfl) ?_ | refine ago_if (by omega) ?_ | skip); simp (disch := first | exact okY | omega) only [ZU, Nat.mul_one, dI, Nat.reduceAdd, AOpRun, aexec, Nat.reduceBEq, Nat.reduceMul, ↓eget_h, dB, ARun_some, AG_ff, ↓reduceIte, run1, gc, Nat.add_zero, n0, nl, gv, gn, fillD, D.isBot, D.cells, ne_eq, not_true_eq_false, Nat.reduceGT, or_self, splice, List.take, List.drop, go, po, ↓hget_h, Nat.reduceLeDiff, List.all, D.leaf, gp, q3, GL, Int.reduceNeg, D.isAgg, isB, eqCells, scalarEq, q1, q2, bne_self_eq_false, hk0, ga, opt1, g2, isSh, abin, q4, reduceCtorEq, or_true, true_and]) | subst hK))
    all_goals ((first | refine ⟨.inr rfl, ?_⟩ | refine ⟨.inl rfl, ?_⟩ | skip) <;> exact wk_env (by repeat' (first | exact trivial | exact rfl | refine And.intro ?_ ?_)) (by first | exact fun _ _ h => h | exact fun _ _ h => HF_tl h) (by simp only; omega))
  rw [q1, q2, q3, b3, q4] at hf
  cases hf
end Go.Proofs.YtgibbaadjbohdaaDoor
/- A call's body walked in place, where the call is guarded. No conditions. -/
namespace Go.Proofs.YtgibbaadjbohdaaDoor.Lift
open Go Go.RowKit

theorem aw_region_inlineG {P : Program} {n : Nat} {pre : List Nat} {Q : AExit → St → Prop} {s : St} (ops1 ops2 : List AOper) {f : Operand} {args : List Operand} {dst : Option Nat} {anc : List Nat} {drop : List Nat} {rd : Rd} {guard : Option (Option Nat × Bool)}
    (h : ARun P false s.nx (fun s1 => gOK s1.env guard ∧ InlK P pre f args dst ops1.length ops2 drop Q (s.nx + 8 * ops1.length) s1) ops1 0 s []) :
    AWb rd P n pre (.region false (ops1 ++ ⟨dst, .call f args, guard, anc⟩ :: ops2) drop) Q s := fun code keep hc C a w hn hp hd hr => by
  cases code with
  | region id oa draw =>
    simp only [compCode] at hc
    split at hc
    · rename_i al hal
      split at hc
      · rename_i hcond
        cases hc
        obtain ⟨β, Z, hR, hβ⟩ := hr
        obtain ⟨hd', hlen⟩ := compOps_dst _ _ _ hal
        have hpl := compOps_plain _ _ _ hal
        obtain ⟨l1, l2', hl, e1, e2, e3, e4⟩ := compOps_app _ _ _ _ hal
        rw [Nat.zero_add] at e4
        obtain ⟨oy, l2, rfl, hoy, e5⟩ : ∃ oy l2, l2' = oy :: l2 ∧ compOper P n oa [] oy = some ⟨dst, .call f args, guard, anc⟩ ∧ compOps P n oa [] l2 (ops1.length + 1) = some ops2 := by
          cases l2' with
          | nil => simp at e2
          | cons oy l2 =>
            simp only [compOps, List.getElem?_nil, Option.getD_none] at e4
            split at e4
            · rename_i x y hx hy
              cases e4
              exact ⟨oy, l2, rfl, by simpa using hx, by simpa using hy⟩
            · cases e4
        have hans : ∀ i j, j ∈ (([] : List (List Nat))[i]?).getD [] → Anc .any oa i j := by simp
        have hdo : ∀ o ∈ oa, ∀ d, o.dst = some d → d < C.n := fun o ho d hdd => hn ▸ hd' o (by simpa using ho) d hdd
        have hplo : ∀ o ∈ oa, ∀ c, o.op ≠ .defer c := fun o ho => hpl o (by simpa using ho)
        have hsz : oa.size = l1.length + (l2.length + 1) := by have := congrArg List.length hl; simpa using this
        have hl2 : l2.length = ops2.length := by simpa using e2
        refine wpIn_region ?_
        have hrange : List.range oa.size = List.range' 0 l1.length ++ List.range' l1.length (l2.length + 1) := by
          rw [List.range_eq_range', hsz]
          have := List.range'_append (s := 0) (m := l1.length) (n := l2.length + 1) (step := 1)
          simpa using this.symm
        rw [hrange]
        have hget : ∀ j, oa[j]? = (l1 ++ oy :: l2)[j]? := fun j => by rw [← hl, Array.getElem?_toList]
        have hoyat : oa[l1.length]? = some oy := by rw [hget, List.getElem?_append_right (by omega)]; simp
        refine wpOps_pre (base := s.nx) (K := l1.length) hdo hplo ?_ l1 0 _ (fun _ _ => False) a w β Z (fun j hj => by rw [Nat.zero_add, hget, List.getElem?_append_left hj]) (by simp) hR (fun g hg hn => absurd (hβ g hg) hn)
          (arun_lex hans l1 ops1 0 s [] _ e3 (fun j ef hf => hf.elim) h)
        rintro fs a1 w1 β1 Z1 hR1 hF ⟨s1, rfl, _, hgok, fid, first, caps, m, c, rs, pin, env', args', hff, rfl, hcode, hm, hsub, hE, hbody⟩
        have hβ1 : ∀ g, s.nx + 8 * ops1.length ≤ g → β1 g = none := fun g hg => by
          cases hb : β1 g with
          | none => rfl
          | some B =>
            obtain ⟨j, hj, h1, h2⟩ := hF g (by omega) (by rw [hb]; simp)
            omega
        -- the call
        unfold compOper at hoy
        split at hoy
        · rename_i ao hao
          split at hoy
          · rename_i hdst
            simp only [Option.some.injEq, AOper.mk.injEq] at hoy
            obtain ⟨rfl, rfl, hgd, _⟩ := hoy
            obtain ⟨cl, ho, hcal, hargs⟩ := comp_call hao
            subst hargs
            have hev := hR1.ev f
            have hff' : s1.F.ev f = .fn fid first caps := hff
            rw [hff'] at hev
            rw [List.range'_succ, wpOpsIn_cons]
            unfold wpOpIn
            simp only [hoyat]
            have hw : Region.wanted oy (yielded oa a1.tmps) = true := by
              refine hR1.wanted ?_
              unfold wantedA
              cases hgu : oy.guard with
              | none => rfl
              | some x =>
                obtain ⟨j, want⟩ := x
                rw [hgu] at hgd
                simp only [Option.map_some] at hgd
                rw [← hgd] at hgok
                simp only
                cases hbd : (oa[j]?).bind (·.dst) with
                | none => rw [hbd] at hgok; exact hgok.elim
                | some t =>
                  rw [hbd] at hgok
                  have : s1.F.env t = .val (.bool want) := hgok
                  simp [this]
            rw [hw]
            simp only [if_true]
            refine ⟨fun _ _ => trivial, ?_⟩
            rw [Oper.semAt_eq _ _ _ (hplo oy (Array.mem_of_getElem? hoyat))]
            generalize hvf : a1.eval f = vf at hev
            cases hev with
            | fn _ us vs _ _ h1 h2 h3 h4 =>
              obtain ⟨fnI, codeI, keepI, q1, q2, q3, rfl, q4, q5⟩ := hcode
              have hb : fnI.body.isNone = false := by rw [q2]; rfl
              have hrun : (execOp a1.eval oy).run P w1 = .ok (.enter fid (us ++ cl.args.map a1.eval ++ vs)) w1 := by
                simp only [execOp, ho, resolve, hcal, hvf, Deferred.ofValue, Sem.run_bind, Sem.run_pure, Result.andThen_ok, invoke, callFunc, run_program, q1]
                simp [q3, hb]
              rw [hrun]
              refine ⟨fun hh => (by cases hh), ?_⟩
              have hsz1 : (us ++ cl.args.map a1.eval ++ vs).size = (first ++ cl.args.toList.map s1.F.ev ++ caps).length := by simp [h1, h3]
              have hrepA : ∀ i (hi : i < (first ++ cl.args.toList.map s1.F.ev ++ caps).length), Rep w1 β1 Z1 ((us ++ cl.args.map a1.eval ++ vs).getD i undef) (first ++ cl.args.toList.map s1.F.ev ++ caps)[i] := fun i hi => by
                by_cases c1 : i < first.length
                · have e1 : (us ++ cl.args.map a1.eval ++ vs).getD i undef = us.getD i undef := by
                    rw [Array.append_assoc, getD_append_left _ _ _ (by omega)]
                  have e2 : (first ++ cl.args.toList.map s1.F.ev ++ caps)[i] = first[i] := by
                    rw [List.getElem_append_left (by simp; omega), List.getElem_append_left c1]
                  rw [e1, e2]
                  exact h2 i c1
                · by_cases c2 : i < first.length + cl.args.size
                  · have hj : i - first.length < cl.args.size := by omega
                    have e1 : (us ++ cl.args.map a1.eval ++ vs).getD i undef = a1.eval cl.args[i - first.length] := by
                      rw [getD_append_left _ _ _ (by simp; omega), getD_append_right _ _ _ (by omega), h1]
                      simp [hj]
                    have e2 : (first ++ cl.args.toList.map s1.F.ev ++ caps)[i] = s1.F.ev cl.args[i - first.length] := by
                      rw [List.getElem_append_left (by simp; omega), List.getElem_append_right (by omega)]
                      simp
                    rw [e1, e2]
                    exact hR1.ev _
                  · have hj : i - first.length - cl.args.size < caps.length := by simp at hi; omega
                    have e1 : (us ++ cl.args.map a1.eval ++ vs).getD i undef = vs.getD (i - first.length - cl.args.size) undef := by
                      rw [getD_append_right _ _ _ (by simp; omega)]
                      simp [h1, Nat.sub_sub]
                    have e2 : (first ++ cl.args.toList.map s1.F.ev ++ caps)[i] = caps[i - first.length - cl.args.size] := by
                      rw [List.getElem_append_right (by simp; omega)]
                      simp [Nat.sub_sub]
                    rw [e1, e2]
                    exact h4 _ hj
              have horig : ∀ b, liveBlk s1.hp β1 b → C.w0.heap.size ≤ b ∨ C.preB b := by
                rintro b ⟨g, c, hc, hB⟩
                exact hR1.orig g c b hc hB
              let C2 : Ctx := ⟨none, w1, pin, liveBlk s1.hp β1, fun b => b < C.w0.heap.size ∧ C.Zl b, Z1, β1, fnI.ntmps, fun b hb hz => by
                rcases horig b hb with h3 | h3
                · have := hz.1; omega
                · obtain ⟨g0, hg0', hb0⟩ := C.own b h3 hz.2
                  exact ⟨g0, hsub g0 (hp ▸ hg0'), hR1.ext g0 hg0' b hb0⟩, fun l h => (by cases h), fun g => gl_new (hR1.gl g) (live_ours hR1.objs)⟩
              have hR2 : Rel C2 ⟨envOf 0 (first ++ cl.args.toList.map s1.F.ev ++ caps), s1.hp, s.nx + 8 * ops1.length⟩ { tmps := (us ++ cl.args.map a1.eval ++ vs) ++ Array.replicate (fnI.ntmps - (us ++ cl.args.map a1.eval ++ vs).size) undef, defers := [] } w1 := by
                refine ⟨β1, Z1, ⟨by rw [Array.size_append, Array.size_replicate, hsz1]; show _ = fnI.ntmps; omega, ⟨List.nodup_nil, fun d hd => by cases hd⟩, fun t => ?_, fun g c hc => hR1.objs g c hc, hR1.inj, Fr.refl _ _, fun b _ hz => hR1.z0 b hz.1 hz.2, fun b _ hz => hz, fun g c B hc hB => .inr ⟨g, c, hc, hB⟩, fun g _ B hB => hB, hR1.zlt⟩, hβ1⟩
                show Rep w1 β1 Z1 _ (eget (envOf 0 _) t)
                rw [get_envOf]
                split
                · rename_i ht
                  simp only [Nat.sub_zero] at ht ⊢
                  rw [getD_append_left _ _ _ (by rw [hsz1]; exact ht.2)]
                  exact hrepA t ht.2
                · exact .bot _
              refine (calls_fw C.r (0 - 1) (R := fun e w'' => ∃ v, e = .returned v ∧ wpOpsIn (Fw C.r) 0 P oa (PostQ C Q) (List.range' (l1.length + 1) l2.length) (a1.put oy.dst v) w'') ((callsIn_wide (n := 0)).1 (callsIn_of_wp_marks q1 q2 trivial ?_))).mono ?_
              rotate_left
              · rintro e w'' ⟨v, rfl, hv⟩
                exact hv
              refine wpIn_mono (hbody codeI keepI q4 C2 _ w1 rfl rfl (Okr.nil rfl) hR2) fun e a2 w3 he => ?_
              suffices fin : ∀ (s2 : St), (∃ d, resD rs s2 = some d ∧ 8 * (ops1.length + 1) ≤ s2.nx ∧ ARun P false (s2.nx - 8 * (ops1.length + 1)) (fun s3 => Q .norm ⟨dropE s3.env _, s3.hp, s2.nx + 8 * ops2.length⟩) ops2 (ops1.length + 1) ⟨putO env' oy.dst d, s2.hp, s2.nx⟩ []) → Rel C2 s2 a2 w3 → LeavesInM Fence.wide 0 P fnI a2.tmps (fun e w'' => ∃ v, e = .returned v ∧ wpOpsIn (Fw C.r) 0 P oa (PostQ C Q) (List.range' (l1.length + 1) l2.length) (a1.put oy.dst v) w'') a2.defers .returning w3 by
                cases e with
                | normal => obtain ⟨s2, ⟨_, hq⟩, hr⟩ := he; exact fin s2 hq hr
                | ret => obtain ⟨s2, ⟨_, hq⟩, hr⟩ := he; exact fin s2 hq hr
                | exit id => obtain ⟨s2, ⟨h1, _⟩, _⟩ := he; rcases h1 with h1 | h1 <;> cases h1
                | _ => exact he.elim
              rintro s2 ⟨d, hd0, hge, hrun2⟩ ⟨β2, Z2, hS2, hβ2⟩
              refine hS2.leaves a2.defers a2 w3 rfl fun a3 w4 ht _ hS3 => ?_
              obtain ⟨v, hv, hrep⟩ := res_sound hS3 q5 hd0
              rw [ht] at hv
              refine ⟨v, hv, v, rfl, ?_⟩
              have hfr : Fr (liveBlk s1.hp β1) w1 w4 := hS3.fr
              have hZ21 : ∀ b, b < w1.heap.size → Z2 b → Z1 b := fun b hb hz => hS3.old b hb hz
              have hback : RelS C β2 Z2 (⟨env', s2.hp, s2.nx⟩ : St).F a1 w4 := by
                refine RelS.back2 (C := C) (C2 := C2) (s1 := s1) (s2 := s2) (env' := env') (pin := pin) hR1 hS3 (fun b hb => hb) rfl rfl (fun _ _ => rfl) rfl rfl (fun g' hg' => hsub g' (hp ▸ hg')) hE ⟨hR1.defers.1, fun d hd => (hR1.defers.2 d hd).mono hfr (fun b hb hx => ?_) hZ21⟩
                obtain ⟨g', c', hc', hB'⟩ := hx
                obtain ⟨cs, e, hO⟩ := (hR1.objs g' c' hc').real hB'
                exact hO.ours
              -- the rest of the region
              have hdn : ∀ d, oy.dst = some d → d < C.n := hdo oy (Array.mem_of_getElem? hoyat)
              have hR4 : RelS C β2 Z2 (⟨putO env' oy.dst d, s2.hp, s2.nx⟩ : St).F (a1.put oy.dst v) w4 := by
                refine ⟨by cases hx : oy.dst <;> simp [Act.put, hback.size], ?_, fun t => ?_, hback.objs, hback.inj, hback.fr, hback.z0, hback.old, hback.orig, hback.ext, hback.zlt⟩
                · have : (a1.put oy.dst v).defers = a1.defers := by cases oy.dst <;> rfl
                  rw [this]; exact hback.defers
                · rw [getD_put]
                  show Rep _ _ _ _ (eget (putO env' oy.dst _) t)
                  rw [get_putO]
                  by_cases ht : oy.dst = some t
                  · rw [if_pos ⟨ht, by rw [hback.size]; exact hdn t ht⟩, if_pos ht]; exact hrep
                  · rw [if_neg (fun hh => ht hh.1), if_neg ht]; exact hback.env t
              have hr2 := wpOps_pre (P := P) (ops := oa) (base := s2.nx - 8 * (ops1.length + 1)) (K := l1.length + 1 + l2.length) (C := C) (Q' := PostQ C Q) (rest := []) hdo hplo
                (Q := fun fs => ∃ s3 : St, fs = s3.F ∧ s3.nx = s2.nx ∧ Q .norm ⟨dropE s3.env _, s3.hp, s2.nx + 8 * ops2.length⟩) ?_ l2 (l1.length + 1) _ (fun _ _ => False) _ _ β2 Z2 (fun j hj => by rw [hget, List.getElem?_append_right (by omega)]; simp [show l1.length + 1 + j - l1.length = j + 1 by omega]) rfl hR4 (fun g' hg' hn0 => by
                  by_cases hgn : s2.nx ≤ g'
                  · exact absurd (hβ2 g' hgn) hn0
                  · refine ⟨(g' - (s2.nx - 8 * (ops1.length + 1))) / 8, ?_, ?_, ?_⟩ <;> omega)
                (arun_lex hans l2 ops2 (l1.length + 1) ⟨putO env' oy.dst d, s2.hp, s2.nx⟩ [] _ (by rw [e1]; exact e5) (fun j ef hf => hf.elim) (by rw [e1]; exact hrun2))
              · simpa using hr2
              · rintro fs a4 w5 β4 Z4 hR5 hF5 ⟨s3, rfl, _, hQ⟩
                refine ⟨_, hQ, β4, Z4, ⟨hR5.size, hR5.defers, fun t => ?_, hR5.objs, hR5.inj, hR5.fr, hR5.z0, hR5.old, hR5.orig, hR5.ext, hR5.zlt⟩, fun g' hg' => ?_⟩
                · show Rep w5 β4 Z4 _ (eget (dropE s3.env _) t)
                  rcases get_drop s3.env _ t with h1 | h1
                  · rw [h1]; exact hR5.env t
                  · rw [h1]; exact .bot _
                · cases hb : β4 g' with
                  | none => rfl
                  | some B =>
                    simp only at hg'
                    obtain ⟨j, hj, h1, h2⟩ := hF5 g' (by omega) (by rw [hb]; simp)
                    omega
          · cases hoy
        · cases hoy
      · cases hc
    · cases hc
  | seq a b => simp only [compCode] at hc; split at hc <;> cases hc
  | cond c a b => simp only [compCode] at hc; split at hc <;> cases hc
  | block id a => simp [compCode] at hc
  | loop a => simp [compCode] at hc
  | rangeFunc x1 x2 x3 x4 => simp only [compCode] at hc; repeat' (first | (cases hc; done) | split at hc)
  | _ => cases hc

end Go.Proofs.YtgibbaadjbohdaaDoor.Lift
/- parts: do, a flight (views last). No conditions. -/
namespace Go.Proofs.YtgibbaadjbohdaaDoor
open Go Go.RowKit Lift

def wkC (k a b c : Int) : D := .agg [dI k, dI a, dI b, dI c]
set_option maxRecDepth 100000 in
set_option maxHeartbeats 8000000 in
theorem do_fly {pin : List Nat} (S : Hg) (top N : Nat) (hS : HgrOk S) (hN : HgN S top) (hT : top ≤ N) (a b c : Int) (hm : machB S a = true → 0 ≤ a ∧ a.toNat < S.fl.length) :
    AWb false Tryd.prog 165 pin cpparts_hangar_do (fun e s' => (e = .norm ∨ e = .ret) ∧ Wk pin s' ⟨[(4, dB (flyB S a b c))], HF (flyS S a b c) [], N + 700000⟩)
      ⟨envOf 0 [.ptr 1104 0, wkC 1 a b c], HF S [], N⟩ := by
  unfold cpparts_hangar_do wkC
  have po := fun tl k h => put_out hN tl (k := k) h
  have go := fun tl k h => get_out hN tl (k := k) h
  have hfl := fly_in (pin := pin) S top (N + 1000) hS hN (by omega) a b c hm
  cases q1 : (b == 0) <;> cases q2 : (c == 0)
  all_goals
    (iterate 14 (try (first | apply aw_seq | ((first | apply aw_skip | apply aw_exit); with_reducible repeat' (first | refine thenQ_n ?_ | refine blockQ_n ?_ | refine thenQ_e ?_ | refine blockQ_t ?_ | refine blockQ_f (by decide) ?_)) | apply aw_ret | apply aw_block | apply aw_condT rfl | apply aw_condF rfl | ((first | refine aw_hide fun K hK => aw_region ?_ | refine ago_if (by omega) ?_ | skip); simp (disch := first | exact okY | omega) only [ZU, Nat.reduceAdd, Nat.reduceMul, dI, AOpRun, aexec, D.isBot, Nat.reduceBEq, ↓eget_h, Nat.add_zero, go, or_self, ↓reduceIte, D.cells, po, run1, ↓hget_h, isSh, abin, q1, ARun_some, AG_ft, AG_tt, q2]) | (subst hK; with_reducible repeat' (first | refine thenQ_n ?_ | refine blockQ_n ?_ | refine thenQ_e ?_ | refine blockQ_t ?_ | refine blockQ_f (by decide) ?_)))))
  all_goals
    refine aw_condT rfl (aw_seq ?_)
    refine aw_region_inline [⟨some 18, .mv (.tmp 0), none, []⟩, ⟨some 19, .fad 1 (.tmp 3), none, []⟩, ⟨some 20, .load1 (.tmp 19), none, []⟩, ⟨some 21, .fad 2 (.tmp 3), none, []⟩, ⟨some 22, .load1 (.tmp 21), none, []⟩, ⟨some 23, .fad 3 (.tmp 3), none, []⟩, ⟨some 24, .load1 (.tmp 23), none, []⟩] [⟨some 4, .mv (.tmp 25), none, []⟩] ?_
    simp (disch := first | exact okY | omega) only [ZU, Nat.reduceAdd, dB, Nat.reduceMul, AOpRun, aexec, ↓eget_h, Nat.reduceBEq, run1, go, ↓hget_h, Nat.add_zero]
    refine inlK pin [] _ kpparts_hangar_fly rfl rfl (by simp) (fun _ h => h) trivial ?_
    refine aw_wk (s' := ⟨envOf 0 [.ptr 1104 0, dI a, dI b, dI c], HF S [], N + 1000⟩) (by ((first | refine ⟨.inr rfl, ?_⟩ | refine ⟨.inl rfl, ?_⟩ | skip) <;> exact wk_env (by repeat' (first | exact trivial | exact rfl | refine And.intro ?_ ?_)) (by first | exact fun _ _ h => h | exact fun _ _ h => HF_tl h) (by simp only; omega))) ?_
    refine aw_post hfl ?_
    rintro e s' ⟨he, hw⟩
    refine ⟨_, hw, inlQ _ he rfl (by simp only [List.length]; omega) ?_⟩
    simp (disch := first | exact okY | omega) only [ZU, Nat.reduceAdd, Nat.reduceMul, dB, eget_n, AOpRun, aexec, ↓eget_h, Nat.reduceBEq]
    (repeat' (first | (with_reducible first | refine thenQ_n ?_ | refine blockQ_n ?_ | refine thenQ_e ?_ | refine blockQ_t ?_ | refine blockQ_f (by decide) ?_) | apply aw_seq | apply aw_skip | apply aw_exit | apply aw_ret | apply aw_block | apply aw_condT rfl | apply aw_condF rfl | ((first | refine aw_hide fun K hK => aw_region ?_ | refine ago_if (by omega) ?_ | skip); simp (disch := first | exact okY | omega) only [ZU, blockQ, reduceCtorEq, or_true, true_and]) | subst hK))
    all_goals ((first | refine ⟨.inr rfl, ?_⟩ | refine ⟨.inl rfl, ?_⟩ | skip) <;> exact wk_env (by repeat' (first | exact trivial | exact rfl | refine And.intro ?_ ?_)) (by first | exact fun _ _ h => h | exact fun _ _ h => HF_tl h) (by simp only; omega))
set_option maxRecDepth 100000 in
set_option maxHeartbeats 8000000 in
theorem do_fit {pin : List Nat} (S : Hg) (top N : Nat) (hS : HgrOk S) (hN : HgN S top) (hT : top ≤ N) (a b c : Int) (hm : machB S b = true → 0 ≤ b ∧ b.toNat < S.fl.length) (hrow : ∀ p ∈ S.pts, (∀ r ∈ p.hist, r.length = 6) ∧ p.hist.length ≤ 1000) :
    AWb false Tryd.prog 165 pin cpparts_hangar_do (fun e s' => (e = .norm ∨ e = .ret) ∧ Wk pin s' ⟨[(4, dB (ftB S a b c))], HF (ftS S (N + 1000) a b c) [], N + 700000⟩)
      ⟨envOf 0 [.ptr 1104 0, wkC 2 a b c], HF S [], N⟩ := by
  unfold cpparts_hangar_do wkC
  have po := fun tl k h => put_out hN tl (k := k) h
  have go := fun tl k h => get_out hN tl (k := k) h
  have hfl := fit_in (pin := pin) S top (N + 1000) hS hN (by omega) a b c hm hrow
  cases q1 : (b == 0) <;> cases q2 : (c == 0)
  all_goals
    (iterate 18 (try (first | apply aw_seq | ((first | apply aw_skip | apply aw_exit); with_reducible repeat' (first | refine thenQ_n ?_ | refine blockQ_n ?_ | refine thenQ_e ?_ | refine blockQ_t ?_ | refine blockQ_f (by decide) ?_)) | apply aw_ret | apply aw_block | apply aw_condT rfl | apply aw_condF rfl | ((first | refine aw_hide fun K hK => aw_region ?_ | refine ago_if (by omega) ?_ | skip); simp (disch := first | exact okY | omega) only [ZU, Nat.reduceAdd, Nat.reduceMul, dI, AOpRun, aexec, D.isBot, Nat.reduceBEq, ↓eget_h, Nat.add_zero, go, or_self, ↓reduceIte, D.cells, po, run1, ↓hget_h, isSh, abin, q1, ARun_some, AG_ft, Int.reduceBEq, AG_tt, q2]) | (subst hK; with_reducible repeat' (first | refine thenQ_n ?_ | refine blockQ_n ?_ | refine thenQ_e ?_ | refine blockQ_t ?_ | refine blockQ_f (by decide) ?_)))))
  all_goals
    refine aw_condT rfl (aw_seq ?_)
    refine aw_region_inline [⟨some 28, .mv (.tmp 0), none, []⟩, ⟨some 29, .fad 1 (.tmp 3), none, []⟩, ⟨some 30, .load1 (.tmp 29), none, []⟩, ⟨some 31, .fad 2 (.tmp 3), none, []⟩, ⟨some 32, .load1 (.tmp 31), none, []⟩, ⟨some 33, .fad 3 (.tmp 3), none, []⟩, ⟨some 34, .load1 (.tmp 33), none, []⟩] [⟨some 4, .mv (.tmp 35), none, []⟩] ?_
    simp (disch := first | exact okY | omega) only [ZU, Nat.reduceAdd, dB, Nat.reduceMul, AOpRun, aexec, ↓eget_h, Nat.reduceBEq, run1, go, ↓hget_h, Nat.add_zero]
    refine inlK pin [] _ kpparts_hangar_fit rfl rfl (by simp) (fun _ h => h) trivial ?_
    refine aw_wk (s' := ⟨envOf 0 [.ptr 1104 0, dI a, dI b, dI c], HF S [], N + 1000⟩) (by ((first | refine ⟨.inr rfl, ?_⟩ | refine ⟨.inl rfl, ?_⟩ | skip) <;> exact wk_env (by repeat' (first | exact trivial | exact rfl | refine And.intro ?_ ?_)) (by first | exact fun _ _ h => h | exact fun _ _ h => HF_tl h) (by simp only; omega))) ?_
    refine aw_post hfl ?_
    rintro e s' ⟨he, hw⟩
    refine ⟨_, hw, inlQ _ he rfl (by simp only [List.length]; omega) ?_⟩
    simp (disch := first | exact okY | omega) only [ZU, Nat.reduceAdd, Nat.reduceMul, dB, eget_n, AOpRun, aexec, ↓eget_h, Nat.reduceBEq]
    (repeat' (first | (with_reducible first | refine thenQ_n ?_ | refine blockQ_n ?_ | refine thenQ_e ?_ | refine blockQ_t ?_ | refine blockQ_f (by decide) ?_) | apply aw_seq | apply aw_skip | apply aw_exit | apply aw_ret | apply aw_block | apply aw_condT rfl | apply aw_condF rfl | ((first | refine aw_hide fun K hK => aw_region ?_ | refine ago_if (by omega) ?_ | skip); simp (disch := first | exact okY | omega) only [ZU, blockQ, reduceCtorEq, or_true, true_and]) | subst hK))
    all_goals ((first | refine ⟨.inr rfl, ?_⟩ | refine ⟨.inl rfl, ?_⟩ | skip) <;> exact wk_env (by repeat' (first | exact trivial | exact rfl | refine And.intro ?_ ?_)) (by first | exact fun _ _ h => h | exact fun _ _ h => HF_tl h) (by simp only; omega))
end Go.Proofs.YtgibbaadjbohdaaDoor
/- parts: do, a check (views last). No conditions. -/
namespace Go.Proofs.YtgibbaadjbohdaaDoor
open Go Go.RowKit Lift

set_option maxRecDepth 100000 in
set_option maxHeartbeats 8000000 in
theorem do_check {pin : List Nat} (S : Hg) (top N : Nat) (hS : HgrOk S) (hN : HgN S top) (hT : top ≤ N) (a b c : Int) :
    AWb false Tryd.prog 165 pin cpparts_hangar_do (fun e s' => (e = .norm ∨ e = .ret) ∧ Wk pin s' ⟨[(4, dB ((c == 0) && chB S a b))], HF (if (c == 0) = true then chS S a b else S) [], N + 700000⟩)
      ⟨envOf 0 [.ptr 1104 0, wkC 5 a b c], HF S [], N⟩ := by
  unfold cpparts_hangar_do wkC
  have po := fun tl k h => put_out hN tl (k := k) h
  have go := fun tl k h => get_out hN tl (k := k) h
  have hfl := check_in (pin := pin) S top (N + 1000) hS hN (by omega) a b
  cases q1 : (b == 0) <;> cases q2 : (c == 0)
  all_goals simp only [Bool.false_and, Bool.true_and, Bool.false_eq_true, if_false, if_true]
  case false.false | true.false =>
    (repeat' (first | (with_reducible first | refine thenQ_n ?_ | refine blockQ_n ?_ | refine thenQ_e ?_ | refine blockQ_t ?_ | refine blockQ_f (by decide) ?_) | apply aw_seq | apply aw_skip | apply aw_exit | apply aw_ret | apply aw_block | apply aw_condT rfl | apply aw_condF rfl | ((first | refine aw_hide fun K hK => aw_region ?_ | refine ago_if (by omega) ?_ | skip); simp (disch := first | exact okY | omega) only [ZU, Nat.reduceAdd, Nat.reduceMul, dI, AOpRun, aexec, D.isBot, Nat.reduceBEq, ↓eget_h, Nat.add_zero, go, or_self, ↓reduceIte, D.cells, po, run1, ↓hget_h, isSh, abin, q1, ARun_some, AG_ft, Int.reduceBEq, q2, blockQ, reduceCtorEq, or_true, dB, true_and, AG_tt]) | subst hK))
    all_goals ((first | refine ⟨.inr rfl, ?_⟩ | refine ⟨.inl rfl, ?_⟩ | skip) <;> exact wk_env (by repeat' (first | exact trivial | exact rfl | refine And.intro ?_ ?_)) (by first | exact fun _ _ h => h | exact fun _ _ h => HF_tl h) (by simp only; omega))
  all_goals
    (iterate 22 (try (first | apply aw_seq | ((first | apply aw_skip | apply aw_exit); with_reducible repeat' (first | refine thenQ_n ?_ | refine blockQ_n ?_ | refine thenQ_e ?_ | refine blockQ_t ?_ | refine blockQ_f (by decide) ?_)) | apply aw_ret | apply aw_block | apply aw_condT rfl | apply aw_condF rfl | ((first | refine aw_hide fun K hK => aw_region ?_ | refine ago_if (by omega) ?_ | skip); simp (disch := first | exact okY | omega) only [ZU, Nat.reduceAdd, Nat.reduceMul, dI, AOpRun, aexec, D.isBot, Nat.reduceBEq, ↓eget_h, Nat.add_zero, go, or_self, ↓reduceIte, D.cells, po, run1, ↓hget_h, isSh, abin, q1, ARun_some, AG_ft, Int.reduceBEq, AG_tt, q2]) | (subst hK; with_reducible repeat' (first | refine thenQ_n ?_ | refine blockQ_n ?_ | refine thenQ_e ?_ | refine blockQ_t ?_ | refine blockQ_f (by decide) ?_)))))
  all_goals
    refine aw_condT rfl (aw_seq ?_)
    refine aw_region_inlineG [⟨some 38, .fad 3 (.tmp 3), none, []⟩, ⟨some 39, .load1 (.tmp 38), none, []⟩, ⟨some 40, .bin .eql (.tmp 39) (.const (.int .i64 0)), none, []⟩, ⟨some 41, .mv (.tmp 40), none, []⟩, ⟨some 42, .mv (.tmp 0), (some (some 41, true)), []⟩, ⟨some 43, .fad 1 (.tmp 3), (some (some 41, true)), []⟩, ⟨some 44, .load1 (.tmp 43), (some (some 41, true)), []⟩, ⟨some 45, .fad 2 (.tmp 3), (some (some 41, true)), []⟩, ⟨some 46, .load1 (.tmp 45), (some (some 41, true)), []⟩] [⟨some 48, .pick (.tmp 41) (.tmp 47) (.const (.bool false)), none, []⟩, ⟨some 4, .mv (.tmp 48), none, []⟩] ?_
    simp (disch := first | exact okY | omega) only [ZU, Nat.reduceAdd, dB, Nat.reduceMul, AOpRun, aexec, Nat.reduceBEq, ↓eget_h, run1, go, ↓hget_h, Nat.add_zero, isSh, ↓reduceIte, abin, q2, ARun_some, AG_tt]
    refine ⟨rfl, inlK pin [(41, dB true)] _ kpparts_hangar_check rfl rfl (by simp) (fun _ h => h) ?_ ?_⟩
    · exact ⟨.inr ⟨rfl, .val _⟩, trivial⟩
    refine aw_wk (s' := ⟨envOf 0 [.ptr 1104 0, dI a, dI b], HF S [], N + 1000⟩) (by ((first | refine ⟨.inr rfl, ?_⟩ | refine ⟨.inl rfl, ?_⟩ | skip) <;> exact wk_env (by repeat' (first | exact trivial | exact rfl | refine And.intro ?_ ?_)) (by first | exact fun _ _ h => h | exact fun _ _ h => HF_tl h) (by simp only; omega))) ?_
    refine aw_post hfl ?_
    rintro e s' ⟨he, hw⟩
    refine ⟨_, hw, inlQ _ he rfl (by simp only [List.length]; omega) ?_⟩
    simp (disch := first | exact okY | omega) only [ZU, Nat.reduceAdd, Nat.reduceMul, dB, eget_n, Nat.reduceBEq, AOpRun, aexec, ↓eget_h, ↓reduceIte]
    (repeat' (first | (with_reducible first | refine thenQ_n ?_ | refine blockQ_n ?_ | refine thenQ_e ?_ | refine blockQ_t ?_ | refine blockQ_f (by decide) ?_) | apply aw_seq | apply aw_skip | apply aw_exit | apply aw_ret | apply aw_block | apply aw_condT rfl | apply aw_condF rfl | ((first | refine aw_hide fun K hK => aw_region ?_ | refine ago_if (by omega) ?_ | skip); simp (disch := first | exact okY | omega) only [ZU, blockQ, reduceCtorEq, or_true, true_and]) | subst hK))
    all_goals ((first | refine ⟨.inr rfl, ?_⟩ | refine ⟨.inl rfl, ?_⟩ | skip) <;> exact wk_env (by repeat' (first | exact trivial | exact rfl | refine And.intro ?_ ?_)) (by first | exact fun _ _ h => h | exact fun _ _ h => HF_tl h) (by simp only; omega))
end Go.Proofs.YtgibbaadjbohdaaDoor
/- parts: do, an order that is issued, a part that is scrapped, and other works (views last). No conditions. -/
namespace Go.Proofs.YtgibbaadjbohdaaDoor
open Go Go.RowKit Lift

def Hg.setI (S : Hg) (l : List Bool) : Hg := { S with iss := l }
def isuB (S : Hg) (a b c : Int) : Bool := ((b == 0) && (c == 0)) && (ordB S a && !(S.iss[a.toNat]?.getD false))
def isuS (S : Hg) (a b c : Int) : Hg := if isuB S a b c = true then S.setI (S.iss.set a.toNat true) else S
set_option maxRecDepth 100000 in
set_option maxHeartbeats 8000000 in
theorem do_issue {pin : List Nat} (S : Hg) (top N : Nat) (hS : HgrOk S) (hN : HgN S top) (hT : top ≤ N) (a b c : Int) :
    AWb false Tryd.prog 165 pin cpparts_hangar_do (fun e s' => (e = .norm ∨ e = .ret) ∧ Wk pin s' ⟨[(4, dB (isuB S a b c))], HF (isuS S a b c) [], N + 700000⟩)
      ⟨envOf 0 [.ptr 1104 0, wkC 4 a b c], HF S [], N⟩ := by
  unfold cpparts_hangar_do wkC isuS isuB
  have po := fun tl k h => put_out hN tl (k := k) h
  have go := fun tl k h => get_out hN tl (k := k) h
  have c1 := ord_ac S a
  have gc := hg_cells S
  unfold dI at gc
  have gi := get_is S
  have hil := hS.is
  cases q1 : (b == 0)
  case false =>
    simp only [Bool.false_and, Bool.false_eq_true, if_false]
    (repeat' (first | (with_reducible first | refine thenQ_n ?_ | refine blockQ_n ?_ | refine thenQ_e ?_ | refine blockQ_t ?_ | refine blockQ_f (by decide) ?_) | apply aw_seq | apply aw_skip | apply aw_exit | apply aw_ret | apply aw_block | apply aw_condT rfl | apply aw_condF rfl | ((first | refine aw_hide fun K hK => aw_region ?_ | refine ago_if (by omega) ?_ | skip); simp (disch := first | exact okY | omega) only [ZU, Nat.reduceAdd, Nat.reduceMul, dI, AOpRun, aexec, D.isBot, Nat.reduceBEq, ↓eget_h, Nat.add_zero, go, or_self, ↓reduceIte, D.cells, po, run1, ↓hget_h, isSh, abin, q1, ARun_some, AG_ft, Int.reduceBEq, AG_tf, blockQ, reduceCtorEq, or_true, dB, true_and]) | subst hK))
    all_goals ((first | refine ⟨.inr rfl, ?_⟩ | refine ⟨.inl rfl, ?_⟩ | skip) <;> exact wk_env (by repeat' (first | exact trivial | exact rfl | refine And.intro ?_ ?_)) (by first | exact fun _ _ h => h | exact fun _ _ h => HF_tl h) (by simp only; omega))
  cases q2 : (c == 0)
  case false =>
    simp only [Bool.false_and, Bool.and_false, Bool.false_eq_true, if_false]
    (repeat' (first | (with_reducible first | refine thenQ_n ?_ | refine blockQ_n ?_ | refine thenQ_e ?_ | refine blockQ_t ?_ | refine blockQ_f (by decide) ?_) | apply aw_seq | apply aw_skip | apply aw_exit | apply aw_ret | apply aw_block | apply aw_condT rfl | apply aw_condF rfl | ((first | refine aw_hide fun K hK => aw_region ?_ | refine ago_if (by omega) ?_ | skip); simp (disch := first | exact okY | omega) only [ZU, Nat.reduceAdd, Nat.reduceMul, dI, AOpRun, aexec, D.isBot, Nat.reduceBEq, ↓eget_h, Nat.add_zero, go, or_self, ↓reduceIte, D.cells, po, run1, ↓hget_h, isSh, abin, q1, ARun_some, AG_tt, q2, Int.reduceBEq, AG_tf, blockQ, reduceCtorEq, or_true, dB, true_and]) | subst hK))
    all_goals ((first | refine ⟨.inr rfl, ?_⟩ | refine ⟨.inl rfl, ?_⟩ | skip) <;> exact wk_env (by repeat' (first | exact trivial | exact rfl | refine And.intro ?_ ?_)) (by first | exact fun _ _ h => h | exact fun _ _ h => HF_tl h) (by simp only; omega))
  cases b1 : ordB S a
  case false =>
    rw [b1] at c1
    simp only [Bool.false_and, Bool.and_false, Bool.false_eq_true, if_false]
    (repeat' (first | (with_reducible first | refine thenQ_n ?_ | refine blockQ_n ?_ | refine thenQ_e ?_ | refine blockQ_t ?_ | refine blockQ_f (by decide) ?_) | apply aw_seq | apply aw_skip | apply aw_exit | apply aw_ret | apply aw_block | apply aw_condT rfl | apply aw_condF rfl | ((first | refine aw_hide fun K hK => aw_region ?_ | refine acallS hN c1 (.val _) rfl (by kernel_rfl) ?_ | refine ago_if (by omega) ?_ | skip); simp (disch := first | exact okY | omega) only [ZU, Nat.reduceAdd, Nat.reduceMul, dI, AOpRun, aexec, D.isBot, Nat.reduceBEq, ↓eget_h, Nat.add_zero, go, or_self, ↓reduceIte, D.cells, po, run1, ↓hget_h, isSh, abin, q1, ARun_some, AG_tt, q2, Int.reduceBEq, AG_ff, dB, AG_tf, blockQ, reduceCtorEq, or_true, true_and]) | subst hK))
    all_goals ((first | refine ⟨.inr rfl, ?_⟩ | refine ⟨.inl rfl, ?_⟩ | skip) <;> exact wk_env (by repeat' (first | exact trivial | exact rfl | refine And.intro ?_ ?_)) (by first | exact fun _ _ h => h | exact fun _ _ h => HF_tl h) (by simp only; omega))
  rw [b1] at c1
  obtain ⟨o0, o1⟩ := ordB_t hS.os b1
  have g1 := bc_gd S.iss a.toNat (by rw [hil]; exact o1)
  have al : a < (S.iss.length : Int) := by omega
  have h3 : a.toNat + 1 ≤ (bcl S.iss).length := by rw [bcl_len, hil]; exact o1
  have t3 := fun v => bc_t S.iss a.toNat v (by rw [hil]; exact o1)
  have pi : ∀ tl, hput (HF S tl) 1032 (bcl (S.iss.set a.toNat true)) = HF (S.setI (S.iss.set a.toNat true)) tl := fun tl => put_is S tl _ (by simp)
  generalize S.iss[a.toNat]?.getD false = a3 at *
  cases a3
  case false =>
    simp only [Bool.and_true, Bool.true_and, Bool.not_false, if_true]
    (repeat' (first | (with_reducible first | refine thenQ_n ?_ | refine blockQ_n ?_ | refine thenQ_e ?_ | refine blockQ_t ?_ | refine blockQ_f (by decide) ?_) | apply aw_seq | apply aw_skip | apply aw_exit | apply aw_ret | apply aw_block | apply aw_condT rfl | apply aw_condF rfl | ((first | refine aw_hide fun K hK => aw_region ?_ | refine acallS hN c1 (.val _) rfl (by kernel_rfl) ?_ | refine ago_if (by omega) ?_ | skip); simp (disch := first | exact okY | omega) only [ZU, Nat.reduceAdd, Nat.reduceMul, dI, AOpRun, aexec, D.isBot, Nat.reduceBEq, ↓eget_h, Nat.add_zero, go, or_self, ↓reduceIte, D.cells, po, run1, ↓hget_h, isSh, abin, q1, ARun_some, AG_tt, q2, Int.reduceBEq, AG_ff, dB, gc, o0, al, Nat.mul_one, gi, g1, h3, List.all, D.leaf, splice, t3, pi, reduceCtorEq, or_true, true_and]) | subst hK))
    all_goals ((first | refine ⟨.inr rfl, ?_⟩ | refine ⟨.inl rfl, ?_⟩ | skip) <;> exact wk_env (by repeat' (first | exact trivial | exact rfl | refine And.intro ?_ ?_)) (by first | exact fun _ _ h => h | exact fun _ _ h => HF_tl h) (by simp only; omega))
  simp only [Bool.not_true, Bool.and_false, Bool.false_eq_true, if_false]
  (repeat' (first | (with_reducible first | refine thenQ_n ?_ | refine blockQ_n ?_ | refine thenQ_e ?_ | refine blockQ_t ?_ | refine blockQ_f (by decide) ?_) | apply aw_seq | apply aw_skip | apply aw_exit | apply aw_ret | apply aw_block | apply aw_condT rfl | apply aw_condF rfl | ((first | refine aw_hide fun K hK => aw_region ?_ | refine acallS hN c1 (.val _) rfl (by kernel_rfl) ?_ | refine ago_if (by omega) ?_ | skip); simp (disch := first | exact okY | omega) only [ZU, Nat.reduceAdd, Nat.reduceMul, dI, AOpRun, aexec, D.isBot, Nat.reduceBEq, ↓eget_h, Nat.add_zero, go, or_self, ↓reduceIte, D.cells, po, run1, ↓hget_h, isSh, abin, q1, ARun_some, AG_tt, q2, Int.reduceBEq, AG_ff, dB, gc, o0, al, Nat.mul_one, gi, g1, blockQ, reduceCtorEq, or_true, true_and]) | subst hK))
  all_goals ((first | refine ⟨.inr rfl, ?_⟩ | refine ⟨.inl rfl, ?_⟩ | skip) <;> exact wk_env (by repeat' (first | exact trivial | exact rfl | refine And.intro ?_ ?_)) (by first | exact fun _ _ h => h | exact fun _ _ h => HF_tl h) (by simp only; omega))
def scrB (S : Hg) (a b c : Int) : Bool := ((b == 0) && (c == 0)) && (partB S a && (((prtAt S a.toNat).m == -1) && ((prtAt S a.toNat).pl == -1)))
def scrS (S : Hg) (a b c : Int) : Hg := if scrB S a b c = true then S.setP a.toNat { prtAt S a.toNat with m := -2, pl := -2 } else S
set_option maxRecDepth 100000 in
set_option maxHeartbeats 8000000 in
theorem do_scrap {pin : List Nat} (S : Hg) (top N : Nat) (hS : HgrOk S) (hN : HgN S top) (hT : top ≤ N) (a b c : Int) :
    AWb false Tryd.prog 165 pin cpparts_hangar_do (fun e s' => (e = .norm ∨ e = .ret) ∧ Wk pin s' ⟨[(4, dB (scrB S a b c))], HF (scrS S a b c) [], N + 700000⟩)
      ⟨envOf 0 [.ptr 1104 0, wkC 6 a b c], HF S [], N⟩ := by
  unfold cpparts_hangar_do wkC scrS scrB
  have po := fun tl k h => put_out hN tl (k := k) h
  have go := fun tl k h => get_out hN tl (k := k) h
  have c1 := part_ac S a
  have gc := hg_cells S
  unfold dI at gc
  cases q1 : (b == 0)
  case false =>
    simp only [Bool.false_and, Bool.false_eq_true, if_false]
    (repeat' (first | (with_reducible first | refine thenQ_n ?_ | refine blockQ_n ?_ | refine thenQ_e ?_ | refine blockQ_t ?_ | refine blockQ_f (by decide) ?_) | apply aw_seq | apply aw_skip | apply aw_exit | apply aw_ret | apply aw_block | apply aw_condT rfl | apply aw_condF rfl | ((first | refine aw_hide fun K hK => aw_region ?_ | refine ago_if (by omega) ?_ | skip); simp (disch := first | exact okY | omega) only [ZU, Nat.reduceAdd, Nat.reduceMul, dI, AOpRun, aexec, D.isBot, Nat.reduceBEq, ↓eget_h, Nat.add_zero, go, or_self, ↓reduceIte, D.cells, po, run1, ↓hget_h, isSh, abin, q1, ARun_some, AG_ft, Int.reduceBEq, AG_tf, blockQ, reduceCtorEq, or_true, dB, true_and]) | subst hK))
    all_goals ((first | refine ⟨.inr rfl, ?_⟩ | refine ⟨.inl rfl, ?_⟩ | skip) <;> exact wk_env (by repeat' (first | exact trivial | exact rfl | refine And.intro ?_ ?_)) (by first | exact fun _ _ h => h | exact fun _ _ h => HF_tl h) (by simp only; omega))
  cases q2 : (c == 0)
  case false =>
    simp only [Bool.false_and, Bool.and_false, Bool.false_eq_true, if_false]
    (repeat' (first | (with_reducible first | refine thenQ_n ?_ | refine blockQ_n ?_ | refine thenQ_e ?_ | refine blockQ_t ?_ | refine blockQ_f (by decide) ?_) | apply aw_seq | apply aw_skip | apply aw_exit | apply aw_ret | apply aw_block | apply aw_condT rfl | apply aw_condF rfl | ((first | refine aw_hide fun K hK => aw_region ?_ | refine ago_if (by omega) ?_ | skip); simp (disch := first | exact okY | omega) only [ZU, Nat.reduceAdd, Nat.reduceMul, dI, AOpRun, aexec, D.isBot, Nat.reduceBEq, ↓eget_h, Nat.add_zero, go, or_self, ↓reduceIte, D.cells, po, run1, ↓hget_h, isSh, abin, q1, ARun_some, AG_tt, q2, Int.reduceBEq, AG_tf, blockQ, reduceCtorEq, or_true, dB, true_and]) | subst hK))
    all_goals ((first | refine ⟨.inr rfl, ?_⟩ | refine ⟨.inl rfl, ?_⟩ | skip) <;> exact wk_env (by repeat' (first | exact trivial | exact rfl | refine And.intro ?_ ?_)) (by first | exact fun _ _ h => h | exact fun _ _ h => HF_tl h) (by simp only; omega))
  cases b1 : partB S a
  case false =>
    rw [b1] at c1
    simp only [Bool.false_and, Bool.and_false, Bool.false_eq_true, if_false]
    (repeat' (first | (with_reducible first | refine thenQ_n ?_ | refine blockQ_n ?_ | refine thenQ_e ?_ | refine blockQ_t ?_ | refine blockQ_f (by decide) ?_) | apply aw_seq | apply aw_skip | apply aw_exit | apply aw_ret | apply aw_block | apply aw_condT rfl | apply aw_condF rfl | ((first | refine aw_hide fun K hK => aw_region ?_ | refine acallS hN c1 (.val _) rfl (by kernel_rfl) ?_ | refine ago_if (by omega) ?_ | skip); simp (disch := first | exact okY | omega) only [ZU, Nat.reduceAdd, Nat.reduceMul, dI, AOpRun, aexec, D.isBot, Nat.reduceBEq, ↓eget_h, Nat.add_zero, go, or_self, ↓reduceIte, D.cells, po, run1, ↓hget_h, isSh, abin, q1, ARun_some, AG_tt, q2, Int.reduceBEq, AG_ff, dB, AG_tf, blockQ, reduceCtorEq, or_true, true_and]) | subst hK))
    all_goals ((first | refine ⟨.inr rfl, ?_⟩ | refine ⟨.inl rfl, ?_⟩ | skip) <;> exact wk_env (by repeat' (first | exact trivial | exact rfl | refine And.intro ?_ ?_)) (by first | exact fun _ _ h => h | exact fun _ _ h => HF_tl h) (by simp only; omega))
  rw [b1] at c1
  obtain ⟨n0, n1⟩ := partB_t hS.np b1
  obtain ⟨p, hp⟩ := nthI n1
  have ep : prtAt S a.toNat = p := by unfold prtAt; rw [hp]; rfl
  rw [ep]
  have nl : a < (S.pts.length : Int) := by omega
  have gv := get_pv hN
  have gn := pvC_nth n1
  have gp := part_cells hN hp
  unfold dI dB at gp
  have pp := fun tl => put_pN hN tl (p' := { p with m := -2, pl := -2 }) hp rfl rfl rfl rfl
  unfold ptC dI dB at pp
  have bn1 : (false != true) = true := rfl
  have bn2 : (true != true) = false := rfl
  cases q3 : (p.m == -1) <;> cases q4 : (p.pl == -1)
  case true.true =>
    simp only [Bool.and_true, Bool.true_and, if_true]
    (repeat' (first | (with_reducible first | refine thenQ_n ?_ | refine blockQ_n ?_ | refine thenQ_e ?_ | refine blockQ_t ?_ | refine blockQ_f (by decide) ?_) | apply aw_seq | apply aw_skip | apply aw_exit | apply aw_ret | apply aw_block | apply aw_condT rfl | apply aw_condF rfl | ((first | refine aw_hide fun K hK => aw_region ?_ | refine acallS hN c1 (.val _) rfl (by kernel_rfl) ?_ | refine ago_if (by omega) ?_ | skip); simp (disch := first | exact okY | omega) only [ZU, Nat.reduceAdd, Nat.reduceMul, dI, AOpRun, aexec, D.isBot, Nat.reduceBEq, ↓eget_h, Nat.add_zero, go, or_self, ↓reduceIte, D.cells, po, run1, ↓hget_h, isSh, abin, q1, ARun_some, AG_tt, q2, Int.reduceBEq, AG_ff, dB, gc, n0, nl, Nat.mul_one, gv, gn, gp, Nat.reduceLeDiff, List.drop, List.take, GL, Int.reduceNeg, D.isAgg, isB, eqCells, scalarEq, q3, q4, bne_self_eq_false, List.all, D.leaf, splice, pp, reduceCtorEq, or_true, true_and]) | subst hK))
    all_goals ((first | refine ⟨.inr rfl, ?_⟩ | refine ⟨.inl rfl, ?_⟩ | skip) <;> exact wk_env (by repeat' (first | exact trivial | exact rfl | refine And.intro ?_ ?_)) (by first | exact fun _ _ h => h | exact fun _ _ h => HF_tl h) (by simp only; omega))
  all_goals
    simp only [Bool.and_false, Bool.false_and, Bool.false_eq_true, if_false]
    (repeat' (first | (with_reducible first | refine thenQ_n ?_ | refine blockQ_n ?_ | refine thenQ_e ?_ | refine blockQ_t ?_ | refine blockQ_f (by decide) ?_) | apply aw_seq | apply aw_skip | apply aw_exit | apply aw_ret | apply aw_block | apply aw_condT rfl | apply aw_condF rfl | ((first | refine aw_hide fun K hK => aw_region ?_ | refine acallS hN c1 (.val _) rfl (by kernel_rfl) ?_ | refine ago_if (by omega) ?_ | skip); simp (disch := first | exact okY | omega) only [ZU, Nat.reduceAdd, Nat.reduceMul, dI, AOpRun, aexec, D.isBot, Nat.reduceBEq, ↓eget_h, Nat.add_zero, go, or_self, ↓reduceIte, D.cells, po, run1, ↓hget_h, isSh, abin, q1, ARun_some, AG_tt, q2, Int.reduceBEq, AG_ff, dB, gc, n0, nl, Nat.mul_one, gv, gn, gp, Nat.reduceLeDiff, List.drop, List.take, GL, Int.reduceNeg, D.isAgg, isB, eqCells, scalarEq, q3, q4, Bool.and_false, bn1, blockQ, reduceCtorEq, or_true, true_and]) | subst hK))
    all_goals ((first | refine ⟨.inr rfl, ?_⟩ | refine ⟨.inl rfl, ?_⟩ | skip) <;> exact wk_env (by repeat' (first | exact trivial | exact rfl | refine And.intro ?_ ?_)) (by first | exact fun _ _ h => h | exact fun _ _ h => HF_tl h) (by simp only; omega))
end Go.Proofs.YtgibbaadjbohdaaDoor
/- parts: do, works of no kind; a history written (views last). No conditions. -/
namespace Go.Proofs.YtgibbaadjbohdaaDoor
open Go Go.RowKit Lift

set_option maxRecDepth 100000 in
set_option maxHeartbeats 8000000 in
theorem do_else {pin : List Nat} (S : Hg) (top N : Nat) (hN : HgN S top) (hT : top ≤ N) (k a b c : Int) (h1 : k ≠ 1) (h2 : k ≠ 2) (h3 : k ≠ 3) (h4 : k ≠ 4) (h5 : k ≠ 5) (h6 : k ≠ 6) :
    AWb false Tryd.prog 165 pin cpparts_hangar_do (fun e s' => (e = .norm ∨ e = .ret) ∧ Wk pin s' ⟨[(4, dB false)], HF S [], N + 700000⟩)
      ⟨envOf 0 [.ptr 1104 0, wkC k a b c], HF S [], N⟩ := by
  unfold cpparts_hangar_do wkC
  have po := fun tl k h => put_out hN tl (k := k) h
  have go := fun tl k h => get_out hN tl (k := k) h
  have e1 : (k == 1) = false := beq_eq_false_iff_ne.mpr h1
  have e2 : (k == 2) = false := beq_eq_false_iff_ne.mpr h2
  have e3 : (k == 3) = false := beq_eq_false_iff_ne.mpr h3
  have e4 : (k == 4) = false := beq_eq_false_iff_ne.mpr h4
  have e5 : (k == 5) = false := beq_eq_false_iff_ne.mpr h5
  have e6 : (k == 6) = false := beq_eq_false_iff_ne.mpr h6
  cases q1 : (b == 0) <;> cases q2 : (c == 0)
  all_goals
    (repeat' (first | (with_reducible first | refine thenQ_n ?_ | refine blockQ_n ?_ | refine thenQ_e ?_ | refine blockQ_t ?_ | refine blockQ_f (by decide) ?_) | apply aw_seq | apply aw_skip | apply aw_exit | apply aw_ret | apply aw_block | apply aw_condT rfl | apply aw_condF rfl | ((first | refine aw_hide fun K hK => aw_region ?_ | refine ago_if (by omega) ?_ | skip); simp (disch := first | exact okY | omega) only [ZU, Nat.reduceAdd, Nat.reduceMul, dI, AOpRun, aexec, D.isBot, Nat.reduceBEq, ↓eget_h, Nat.add_zero, go, or_self, ↓reduceIte, D.cells, po, run1, ↓hget_h, isSh, abin, q1, ARun_some, AG_ft, e1, e2, e5, e3, e4, e6, blockQ, reduceCtorEq, or_true, dB, true_and, AG_tt, q2]) | subst hK))
    all_goals ((first | refine ⟨.inr rfl, ?_⟩ | refine ⟨.inl rfl, ?_⟩ | skip) <;> exact wk_env (by repeat' (first | exact trivial | exact rfl | refine And.intro ?_ ?_)) (by first | exact fun _ _ h => h | exact fun _ _ h => HF_tl h) (by simp only; omega))
theorem put_hn {S : Hg} {top i : Nat} {p : Prt} {l : List (List Int)} (hN : HgN S top) (tl : Hp) (hi : S.pts[i]? = some p) (hl : l.length = p.hist.length) : hput (HF S tl) p.hn (icells l.flatten) = HF (S.setP i { p with hist := l }) tl := by
  have hp := hN.hn p (List.mem_of_getElem? hi)
  have hn := hN.n
  have hil := idx_lt hi
  have hd : hd5 (S.setP i { p with hist := l }) = hd5 S := by
    have h1 : hsC (S.pts.set i { p with hist := l }) = hsC S.pts := by
      unfold hsC
      rw [List.map_set]
      apply List.ext_getElem?
      intro j
      rw [List.getElem?_set]
      by_cases hj : i = j
      · subst hj
        rw [if_pos rfl, if_pos (by simpa using hil), List.getElem?_map, hi]
        simp [hl]
      · rw [if_neg hj]
    unfold hd5 hgrC Hg.setP
    simp only [List.length_set, h1]
  rw [fam_put hN tl hi (.inr (.inr (.inr rfl)))]
  show _ ++ (_ ++ hput ((pN i, _) :: (sN i, _) :: (cN i, _) :: (p.hn, _) :: _) _ _) = _
  rw [hput_skip (by unfold pN; omega), hput_skip (by unfold sN; omega), hput_skip (by unfold cN; omega), hput_head]
  unfold HF
  rw [hd]
  show _ = _ ++ (famL 0 (S.pts.set i { p with hist := l }) ++ tl)
  rw [famL_set _ 0 i p { p with hist := l } hi, Nat.zero_add, List.append_assoc, List.append_assoc]
  unfold fam1 ptC
  rfl
theorem fl_vw {H : Heap} {S : Hg} {tl : Hp} (hH : H = hget (HF S tl)) : Vw H [1104, 1056] (.ptr 1104 0) (flV S.fl) := by
  subst hH
  refine vw_obj (by simp) (get_hg S tl) ⟨.bot _, .bot _, .bot _, .bot _, .bot _, .bot _, ?_, .bot _, .bot _, trivial⟩ rfl
  exact .vec 1056 S.fl.length 2 (scells S.fl) (sps S.fl) (by simp) (get_fl S tl) (by rw [scells_len]; omega) (sps_two _) (sps_len _) (by rw [sc_tk2]; exact sps_flat _) (scells_in _)
end Go.Proofs.YtgibbaadjbohdaaDoor
/- parts: do, a part that is taken (views last; symbolic names). No conditions. -/
namespace Go.Proofs.YtgibbaadjbohdaaDoor
open Go Go.RowKit Lift

def lastR (p : Prt) : List Int := p.hist.getLast?.getD []
def tkR (S : Hg) (r : List Int) : List Int := [r[0]?.getD 0, r[1]?.getD 0, r[2]?.getD 0, S.works, w64 ((S.fl[(r[0]?.getD 0).toNat]?.getD (0, 0)).1 - r[4]?.getD 0), w64 ((S.fl[(r[0]?.getD 0).toNat]?.getD (0, 0)).2 - r[5]?.getD 0)]
def tkN (S : Hg) (p : Prt) : Prt := { p with m := -1, pl := -1, hist := p.hist.dropLast ++ [tkR S (lastR p)] }
def tkB (S : Hg) (a b c : Int) : Bool := ((b == 0) && (c == 0)) && (partB S a && !decide ((prtAt S a.toNat).m < 0))
def tkS (S : Hg) (a b c : Int) : Hg := if tkB S a b c = true then S.setP a.toNat (tkN S (prtAt S a.toNat)) else S
theorem st6_flat (fr : List (List Int)) (m pl f t h c : Int) : icells (fr ++ [[m, pl, f, t, h, c]]).flatten = st6 fr.flatten m pl f t h c := by simp [st6, icells, dI]
set_option maxRecDepth 100000 in
set_option maxHeartbeats 8000000 in
theorem do_taken {pin : List Nat} (S : Hg) (top N : Nat) (hS : HgrOk S) (hN : HgN S top) (hT : top ≤ N) (a b c : Int)
    (hinv : ∀ p ∈ S.pts, 0 ≤ p.m → ∃ fr m0 l0 f0 t0 hh cc, p.hist = fr ++ [[m0, l0, f0, t0, hh, cc]] ∧ 0 ≤ m0 ∧ m0.toNat < S.fl.length ∧ (∀ r ∈ fr, r.length = 6) ∧ fr.length ≤ 1000) :
    AWb false Tryd.prog 165 pin cpparts_hangar_do (fun e s' => (e = .norm ∨ e = .ret) ∧ Wk pin s' ⟨[(4, dB (tkB S a b c))], HF (tkS S a b c) [], N + 700000⟩)
      ⟨envOf 0 [.ptr 1104 0, wkC 3 a b c], HF S [], N⟩ := by
  unfold cpparts_hangar_do wkC tkS tkB
  have po := fun tl k h => put_out hN tl (k := k) h
  have go := fun tl k h => get_out hN tl (k := k) h
  have c1 := part_ac S a
  have gc := hg_cells S
  unfold dI at gc
  cases q1 : (b == 0)
  case false =>
    simp only [Bool.false_and, Bool.false_eq_true, if_false]
    (repeat' (first | (with_reducible first | refine thenQ_n ?_ | refine blockQ_n ?_ | refine thenQ_e ?_ | refine blockQ_t ?_ | refine blockQ_f (by decide) ?_) | apply aw_seq | apply aw_skip | apply aw_exit | apply aw_ret | apply aw_block | apply aw_condT rfl | apply aw_condF rfl | ((first | refine aw_hide fun K hK => aw_region ?_ | refine ago_if (by omega) ?_ | skip); simp (disch := first | omega | (simp [okLog] <;> omega)) only [ZU, Nat.reduceAdd, Nat.reduceMul, dI, AOpRun, aexec, D.isBot, Nat.reduceBEq, ↓eget_h, Nat.add_zero, go, or_self, ↓reduceIte, D.cells, po, run1, ↓hget_h, isSh, abin, q1, ARun_some, AG_ft, Int.reduceBEq, AG_tf, blockQ, reduceCtorEq, or_true, dB, true_and]) | subst hK))
    all_goals ((first | refine ⟨.inr rfl, ?_⟩ | refine ⟨.inl rfl, ?_⟩ | skip) <;> exact wk_env (by repeat' (first | exact trivial | exact rfl | refine And.intro ?_ ?_)) (by first | exact fun _ _ h => h | exact fun _ _ h => HF_tl h) (by simp only; omega))
  cases q2 : (c == 0)
  case false =>
    simp only [Bool.false_and, Bool.and_false, Bool.false_eq_true, if_false]
    (repeat' (first | (with_reducible first | refine thenQ_n ?_ | refine blockQ_n ?_ | refine thenQ_e ?_ | refine blockQ_t ?_ | refine blockQ_f (by decide) ?_) | apply aw_seq | apply aw_skip | apply aw_exit | apply aw_ret | apply aw_block | apply aw_condT rfl | apply aw_condF rfl | ((first | refine aw_hide fun K hK => aw_region ?_ | refine ago_if (by omega) ?_ | skip); simp (disch := first | omega | (simp [okLog] <;> omega)) only [ZU, Nat.reduceAdd, Nat.reduceMul, dI, AOpRun, aexec, D.isBot, Nat.reduceBEq, ↓eget_h, Nat.add_zero, go, or_self, ↓reduceIte, D.cells, po, run1, ↓hget_h, isSh, abin, q1, ARun_some, AG_tt, q2, Int.reduceBEq, AG_tf, blockQ, reduceCtorEq, or_true, dB, true_and]) | subst hK))
    all_goals ((first | refine ⟨.inr rfl, ?_⟩ | refine ⟨.inl rfl, ?_⟩ | skip) <;> exact wk_env (by repeat' (first | exact trivial | exact rfl | refine And.intro ?_ ?_)) (by first | exact fun _ _ h => h | exact fun _ _ h => HF_tl h) (by simp only; omega))
  cases b1 : partB S a
  case false =>
    rw [b1] at c1
    simp only [Bool.false_and, Bool.and_false, Bool.false_eq_true, if_false]
    (repeat' (first | (with_reducible first | refine thenQ_n ?_ | refine blockQ_n ?_ | refine thenQ_e ?_ | refine blockQ_t ?_ | refine blockQ_f (by decide) ?_) | apply aw_seq | apply aw_skip | apply aw_exit | apply aw_ret | apply aw_block | apply aw_condT rfl | apply aw_condF rfl | ((first | refine aw_hide fun K hK => aw_region ?_ | refine acallS hN c1 (.val _) rfl (by kernel_rfl) ?_ | refine ago_if (by omega) ?_ | skip); simp (disch := first | omega | (simp [okLog] <;> omega)) only [ZU, Nat.reduceAdd, Nat.reduceMul, dI, AOpRun, aexec, D.isBot, Nat.reduceBEq, ↓eget_h, Nat.add_zero, go, or_self, ↓reduceIte, D.cells, po, run1, ↓hget_h, isSh, abin, q1, ARun_some, AG_tt, q2, Int.reduceBEq, AG_ff, dB, AG_tf, blockQ, reduceCtorEq, or_true, true_and]) | subst hK))
    all_goals ((first | refine ⟨.inr rfl, ?_⟩ | refine ⟨.inl rfl, ?_⟩ | skip) <;> exact wk_env (by repeat' (first | exact trivial | exact rfl | refine And.intro ?_ ?_)) (by first | exact fun _ _ h => h | exact fun _ _ h => HF_tl h) (by simp only; omega))
  rw [b1] at c1
  obtain ⟨n0, n1⟩ := partB_t hS.np b1
  obtain ⟨p, hp⟩ := nthI n1
  have ep : prtAt S a.toNat = p := by unfold prtAt; rw [hp]; rfl
  rw [ep]
  have nl : a < (S.pts.length : Int) := by omega
  have gv := get_pv hN
  have gn := pvC_nth n1
  have gp := part_cells hN hp
  unfold dI dB at gp
  cases q3 : decide (p.m < 0)
  case true =>
    simp only [Bool.not_true, Bool.and_false, Bool.false_eq_true, if_false]
    (repeat' (first | (with_reducible first | refine thenQ_n ?_ | refine blockQ_n ?_ | refine thenQ_e ?_ | refine blockQ_t ?_ | refine blockQ_f (by decide) ?_) | apply aw_seq | apply aw_skip | apply aw_exit | apply aw_ret | apply aw_block | apply aw_condT rfl | apply aw_condF rfl | ((first | refine aw_hide fun K hK => aw_region ?_ | refine acallS hN c1 (.val _) rfl (by kernel_rfl) ?_ | refine ago_if (by omega) ?_ | skip); simp (disch := first | omega | (simp [okLog] <;> omega)) only [ZU, Nat.reduceAdd, Nat.reduceMul, dI, AOpRun, aexec, D.isBot, Nat.reduceBEq, ↓eget_h, Nat.add_zero, go, or_self, ↓reduceIte, D.cells, po, run1, ↓hget_h, isSh, abin, q1, ARun_some, AG_tt, q2, Int.reduceBEq, AG_ff, dB, gc, n0, nl, Nat.mul_one, gv, gn, Int.le_refl, cast_lit, Int.reduceLT, Int.toNat_zero, gp, q3, blockQ, reduceCtorEq, or_true, true_and]) | subst hK))
    all_goals ((first | refine ⟨.inr rfl, ?_⟩ | refine ⟨.inl rfl, ?_⟩ | skip) <;> exact wk_env (by repeat' (first | exact trivial | exact rfl | refine And.intro ?_ ?_)) (by first | exact fun _ _ h => h | exact fun _ _ h => HF_tl h) (by simp only; omega))
  simp only [Bool.and_true, Bool.true_and, Bool.not_false, if_true]
  obtain ⟨fr, m0, l0, f0, t0, hh, cc, eh, i0, i1, ir, il⟩ := hinv p (List.mem_of_getElem? hp) (by simpa using q3)
  have pp := fun tl => put_pN hN tl (p' := { p with m := -1, pl := -1 }) hp rfl rfl rfl rfl
  unfold ptC dI dB at pp
  have hN1 : HgN (S.setP a.toNat { p with m := -1, pl := -1 }) top := setP_N hN hp rfl
  have hp1 : (S.setP a.toNat { p with m := -1, pl := -1 }).pts[a.toNat]? = some { p with m := -1, pl := -1 } := setP_at hp
  have gc1 := hg_cells (S.setP a.toNat { p with m := -1, pl := -1 })
  have e1 : (S.setP a.toNat { p with m := -1, pl := -1 }).pts.length = S.pts.length := by simp [Hg.setP]
  simp only [e1] at gc1
  have gh := get_hs (S.setP a.toNat { p with m := -1, pl := -1 })
  have gh2 := hs_nth hp1
  have gn1 := fun tl => get_hn hN1 tl hp1
  have po1 := fun tl k h => put_out hN1 tl (k := k) h
  have go1 := fun tl k h => get_out hN1 tl (k := k) h
  have hfl : (S.setP a.toNat { p with m := -1, pl := -1 }).fl = S.fl := rfl
  have hwk : (S.setP a.toNat { p with m := -1, pl := -1 }).works = S.works := rfl
  have hlen : p.hist.length = fr.length + 1 := by rw [eh]; simp
  simp only [hfl, hwk] at gc1
  unfold dI at gc1
  simp only [hlen] at gh2
  have hf6 := flat6 fr ir
  have hpn := hN.hn p (List.mem_of_getElem? hp)
  have htp := hN.tp
  have ce := end_ac S.fl p.hn fr.length fr.flatten m0 l0 f0 t0 hh cc S.works hf6 il i0 i1
  have fv := fun tl => fl_vw (H := hget (HF (S.setP a.toNat { p with m := -1, pl := -1 }) tl)) (S := S.setP a.toNat { p with m := -1, pl := -1 }) (tl := tl) rfl
  simp only [hfl] at fv
  have et : tkN S p = { p with m := -1, pl := -1, hist := fr ++ [[m0, l0, f0, S.works, w64 ((S.fl[m0.toNat]?.getD (0, 0)).1 - hh), w64 ((S.fl[m0.toNat]?.getD (0, 0)).2 - cc)]] } := by
    unfold tkN tkR lastR
    rw [eh]; simp
  have ph : ∀ tl, hput (HF (S.setP a.toNat { p with m := -1, pl := -1 }) tl) p.hn (st6 fr.flatten m0 l0 f0 S.works (w64 ((S.fl[m0.toNat]?.getD (0, 0)).1 - hh)) (w64 ((S.fl[m0.toNat]?.getD (0, 0)).2 - cc))) = HF (S.setP a.toNat (tkN S p)) tl := fun tl => by
    have := put_hn (l := fr ++ [[m0, l0, f0, S.works, w64 ((S.fl[m0.toNat]?.getD (0, 0)).1 - hh), w64 ((S.fl[m0.toNat]?.getD (0, 0)).2 - cc)]]) hN1 tl hp1 (by rw [show ({ p with m := -1, pl := -1 } : Prt).hist = p.hist from rfl, hlen]; simp)
    rw [st6_flat, setP_setP] at this
    rw [et]; exact this
  have ghn : ∀ tl, hget (HF (S.setP a.toNat { p with m := -1, pl := -1 }) tl) p.hn = some (st6 fr.flatten m0 l0 f0 t0 hh cc) := fun tl => by
    have := gn1 tl
    rw [← st6_flat, ← eh]; exact this
  generalize hS1 : S.setP a.toNat { p with m := -1, pl := -1 } = S1 at *
  (repeat' (first | (with_reducible first | refine thenQ_n ?_ | refine blockQ_n ?_ | refine thenQ_e ?_ | refine blockQ_t ?_ | refine blockQ_f (by decide) ?_) | apply aw_seq | apply aw_skip | apply aw_exit | apply aw_ret | apply aw_block | apply aw_condT rfl | apply aw_condF rfl | ((first | refine aw_hide fun K hK => aw_region ?_ | refine acallS hN c1 (.val _) rfl (by kernel_rfl) ?_ | refine ago_if (by omega) ?_ | skip); simp (disch := first | omega | (simp [okLog] <;> omega)) only [ZU, Nat.reduceAdd, Nat.reduceMul, dI, AOpRun, aexec, D.isBot, Nat.reduceBEq, ↓eget_h, Nat.add_zero, go, or_self, ↓reduceIte, D.cells, po, run1, ↓hget_h, isSh, abin, q1, ARun_some, AG_tt, q2, Int.reduceBEq, AG_ff, dB, gc, n0, nl, Nat.mul_one, gv, gn, Int.le_refl, cast_lit, Int.reduceLT, Int.toNat_zero, gp, q3, GL, Int.reduceNeg, Nat.reduceLeDiff, List.take, List.all, D.leaf, splice, List.drop, pp, gc1, go1, gh, gh2, blockQ]) | subst hK))
  generalize w64 ((S.fl[m0.toNat]?.getD (0, 0)).1 - hh) = X at *
  generalize w64 ((S.fl[m0.toNat]?.getD (0, 0)).2 - cc) = Y at *
  refine acallH ce [1104, 1056] ⟨fv _, .refl _, .refl _, trivial⟩ (.inr ⟨.tup [] (by simp), ?_⟩) ?_ ?_ ?_ ?_ ?_ ?_ ?_
  · intro x hx c' hc e he
    rw [List.mem_singleton.1 hx] at hc
    cases hc
    unfold st6 at he
    rcases List.mem_append.1 he with hd | hd
    · obtain ⟨x, _, rfl⟩ := List.mem_map.1 hd; exact .val _
    · simp at hd; rcases hd with rfl | rfl | rfl | rfl | rfl | rfl <;> exact .val _
  · intro g hg
    simp only [List.mem_cons, List.not_mem_nil, or_false] at hg
    simp only [List.map_cons, List.map_nil, List.mem_singleton]
    omega
  · intro g hg
    simp only [List.mem_cons, List.not_mem_nil, or_false] at hg
    rcases hg with rfl | rfl
    · exact ⟨_, get_hg S1 _⟩
    · exact ⟨_, get_fl S1 _⟩
  · intro x hx
    rw [List.mem_singleton.1 hx]
    exact ghn _
  · intro g hg hn
    exact absurd hg hn
  · simp [okNew, ghn]
  · simp [okLog]
  simp (disch := first | omega | (simp [okLog] <;> omega)) only [ZU, Nat.reduceAdd, Nat.reduceBEq, ph]
  (repeat' (first | (with_reducible first | refine thenQ_n ?_ | refine blockQ_n ?_ | refine thenQ_e ?_ | refine blockQ_t ?_ | refine blockQ_f (by decide) ?_) | apply aw_seq | apply aw_skip | apply aw_exit | apply aw_ret | apply aw_block | apply aw_condT rfl | apply aw_condF rfl | ((first | refine aw_hide fun K hK => aw_region ?_ | refine ago_if (by omega) ?_ | skip); simp (disch := first | omega | (simp [okLog] <;> omega)) only [ZU, Nat.reduceMul, AOpRun, aexec, Nat.reduceBEq, reduceCtorEq, or_true, true_and]) | subst hK))
  all_goals ((first | refine ⟨.inr rfl, ?_⟩ | refine ⟨.inl rfl, ?_⟩ | skip) <;> exact wk_env (by repeat' (first | exact trivial | exact rfl | refine And.intro ?_ ?_)) (by first | exact fun _ _ h => h | exact fun _ _ h => HF_tl h) (by simp only; omega))
end Go.Proofs.YtgibbaadjbohdaaDoor
/- parts: do, all kinds of works. No conditions. -/
namespace Go.Proofs.YtgibbaadjbohdaaDoor
open Go Go.RowKit Lift

def dowB (S : Hg) (k a b c : Int) : Bool :=
  if k = 1 then flyB S a b c else if k = 2 then ftB S a b c else if k = 3 then tkB S a b c else if k = 4 then isuB S a b c else if k = 5 then (c == 0) && chB S a b else if k = 6 then scrB S a b c else false
def doS (S : Hg) (N : Nat) (k a b c : Int) : Hg :=
  if k = 1 then flyS S a b c else if k = 2 then ftS S (N + 1000) a b c else if k = 3 then tkS S a b c else if k = 4 then isuS S a b c else if k = 5 then (if (c == 0) = true then chS S a b else S) else if k = 6 then scrS S a b c else S
structure HsOk (S : Hg) : Prop where
  ms : ∀ m, machB S m = true → 0 ≤ m ∧ m.toNat < S.fl.length
  row : ∀ p ∈ S.pts, (∀ r ∈ p.hist, r.length = 6) ∧ p.hist.length ≤ 1000
  on : ∀ p ∈ S.pts, 0 ≤ p.m → ∃ fr m0 l0 f0 t0 hh cc, p.hist = fr ++ [[m0, l0, f0, t0, hh, cc]] ∧ 0 ≤ m0 ∧ m0.toNat < S.fl.length ∧ (∀ r ∈ fr, r.length = 6) ∧ fr.length ≤ 1000
theorem do_in {pin : List Nat} (S : Hg) (top N : Nat) (hS : HgrOk S) (hN : HgN S top) (hT : top ≤ N) (hH : HsOk S) (k a b c : Int) :
    AWb false Tryd.prog 165 pin cpparts_hangar_do (fun e s' => (e = .norm ∨ e = .ret) ∧ Wk pin s' ⟨[(4, dB (dowB S k a b c))], HF (doS S N k a b c) [], N + 700000⟩)
      ⟨envOf 0 [.ptr 1104 0, wkC k a b c], HF S [], N⟩ := by
  by_cases h1 : k = 1
  · subst h1
    exact do_fly S top N hS hN hT a b c (hH.ms a)
  by_cases h2 : k = 2
  · subst h2
    exact do_fit S top N hS hN hT a b c (hH.ms b) hH.row
  by_cases h3 : k = 3
  · subst h3
    exact do_taken S top N hS hN hT a b c hH.on
  by_cases h4 : k = 4
  · subst h4
    exact do_issue S top N hS hN hT a b c
  by_cases h5 : k = 5
  · subst h5
    exact do_check S top N hS hN hT a b c
  by_cases h6 : k = 6
  · subst h6
    exact do_scrap S top N hS hN hT a b c
  unfold dowB doS
  rw [if_neg h1, if_neg h2, if_neg h3, if_neg h4, if_neg h5, if_neg h6, if_neg h1, if_neg h2, if_neg h3, if_neg h4, if_neg h5, if_neg h6]
  exact do_else S top N hN hT k a b c h1 h2 h3 h4 h5 h6
end Go.Proofs.YtgibbaadjbohdaaDoor
/- parts: what a work keeps: names. No conditions. -/
namespace Go.Proofs.YtgibbaadjbohdaaDoor
open Go Go.RowKit Lift

theorem HgN.up {S : Hg} {t t' : Nat} (h : HgN S t) (ht : t ≤ t') : HgN S t' :=
  ⟨h.n, fun p hp => ⟨(h.hn p hp).1, Nat.lt_of_lt_of_le (h.hn p hp).2 ht⟩, h.nd, h.pv, Nat.le_trans h.tp ht⟩
theorem setF_N {S : Hg} {t : Nat} (h : HgN S t) (l : List (Int × Int)) : HgN (S.setF l) t := ⟨h.n, h.hn, h.nd, h.pv, h.tp⟩
theorem setI_N {S : Hg} {t : Nat} (h : HgN S t) (l : List Bool) : HgN (S.setI l) t := ⟨h.n, h.hn, h.nd, h.pv, h.tp⟩
theorem setF_ok {S : Hg} (h : HgrOk S) (l : List (Int × Int)) : HgrOk (S.setF l) := ⟨h.ks, h.os, h.np, h.is, h.kp, fun p hp => ⟨(h.pt p hp).k0, (h.pt p hp).k1, (h.pt p hp).sl, (h.pt p hp).cl⟩⟩
theorem setI_ok {S : Hg} (h : HgrOk S) (l : List Bool) (hl : l.length = S.iss.length) : HgrOk (S.setI l) := ⟨h.ks, h.os, h.np, hl.trans h.is, h.kp, fun p hp => ⟨(h.pt p hp).k0, (h.pt p hp).k1, (h.pt p hp).sl, (h.pt p hp).cl⟩⟩
theorem setP_N2 {S : Hg} {top i : Nat} {p p' : Prt} (hN : HgN S top) (hi : S.pts[i]? = some p) (hn : top ≤ p'.hn) : HgN (S.setP i p') (p'.hn + 1) := by
  have htp := hN.tp
  have key : ∀ (j : Nat) (q : Prt), (S.setP i p').pts[j]? = some q → (j = i ∧ q = p') ∨ (j ≠ i ∧ S.pts[j]? = some q) := by
    intro j q hq
    unfold Hg.setP at hq
    simp only [List.getElem?_set] at hq
    by_cases hj : i = j
    · subst hj
      rw [if_pos rfl, if_pos (idx_lt hi)] at hq
      cases hq
      exact .inl ⟨rfl, rfl⟩
    · rw [if_neg hj] at hq; exact .inr ⟨fun e => hj e.symm, hq⟩
  have low : ∀ (j : Nat) (q : Prt), S.pts[j]? = some q → q.hn < top := fun j q h => (hN.hn q (List.mem_of_getElem? h)).2
  refine ⟨by simpa [Hg.setP] using hN.n, fun q hq => ?_, fun j k q q' hq hq' he => ?_, hN.pv, by omega⟩
  · obtain ⟨j, hj, rfl⟩ := List.getElem_of_mem hq
    rcases key j _ (List.getElem?_eq_getElem hj) with ⟨_, h2⟩ | ⟨_, h2⟩
    · rw [h2]; omega
    · have h3 := hN.hn _ (List.mem_of_getElem? h2)
      omega
  · rcases key j q hq with ⟨h1, h2⟩ | ⟨h1, h2⟩ <;> rcases key k q' hq' with ⟨h3, h4⟩ | ⟨h3, h4⟩
    · omega
    · have := low k q' h4; rw [h2] at he; omega
    · have := low j q h2; rw [h4] at he; omega
    · exact hN.nd j k q q' h2 h4 he
theorem setP_N3 {S : Hg} {top t' i : Nat} {p p' : Prt} (hN : HgN S top) (hi : S.pts[i]? = some p) (e : p'.hn = p.hn) (h : top ≤ t') : HgN (S.setP i p') t' := (setP_N hN hi e).up h
theorem prtAt_at {S : Hg} {i : Nat} (h : i < S.pts.length) : S.pts[i]? = some (prtAt S i) := by
  obtain ⟨p, hp⟩ := nthI h
  rw [hp]; unfold prtAt; rw [hp]; rfl
theorem do_keep {S : Hg} {top N : Nat} (hS : HgrOk S) (hN : HgN S top) (hT : top ≤ N) (k a b c : Int) : HgrOk (doS S N k a b c) ∧ HgN (doS S N k a b c) (N + 2000) := by
  have hup := hN.up (t' := N + 2000) (by omega)
  unfold doS
  by_cases h1 : k = 1
  · rw [if_pos h1]
    unfold flyS
    split
    · obtain ⟨e1, e2⟩ := flN_ok hS hN a b c S.pts.length (Nat.le_refl _)
      exact ⟨setF_ok e1 _, setF_N (e2.up (by omega)) _⟩
    · exact ⟨hS, hup⟩
  rw [if_neg h1]
  by_cases h2 : k = 2
  · rw [if_pos h2]
    unfold ftS
    split
    · rename_i hb
      unfold ftB at hb
      simp only [Bool.and_eq_true] at hb
      have hp := prtAt_at (partB_t hS.np hb.1.1).2
      exact ⟨setP_ok hS hp rfl rfl rfl, (setP_N2 hN hp (p' := ftN S (prtAt S a.toNat) b c (N + 1000 + 872)) (show top ≤ N + 1000 + 872 by omega)).up (show N + 1000 + 872 + 1 ≤ N + 2000 by omega)⟩
    · exact ⟨hS, hup⟩
  rw [if_neg h2]
  by_cases h3 : k = 3
  · rw [if_pos h3]
    unfold tkS
    split
    · rename_i hb
      unfold tkB at hb
      simp only [Bool.and_eq_true] at hb
      have hp := prtAt_at (partB_t hS.np hb.2.1).2
      exact ⟨setP_ok hS hp rfl rfl rfl, setP_N3 hN hp rfl (by omega)⟩
    · exact ⟨hS, hup⟩
  rw [if_neg h3]
  by_cases h4 : k = 4
  · rw [if_pos h4]
    unfold isuS
    split
    · exact ⟨setI_ok hS _ (by simp), setI_N hup _⟩
    · exact ⟨hS, hup⟩
  rw [if_neg h4]
  by_cases h5 : k = 5
  · rw [if_pos h5]
    split
    · unfold chS
      split
      · rename_i hb
        unfold chB at hb
        simp only [Bool.and_eq_true] at hb
        have hp := prtAt_at (partB_t hS.np hb.1.1).2
        exact ⟨setP_ok hS hp rfl rfl (by simp), setP_N3 hN hp rfl (by omega)⟩
      · exact ⟨hS, hup⟩
    · exact ⟨hS, hup⟩
  rw [if_neg h5]
  split
  · unfold scrS
    split
    · rename_i hb
      unfold scrB at hb
      simp only [Bool.and_eq_true] at hb
      have hp := prtAt_at (partB_t hS.np hb.2.1).2
      exact ⟨setP_ok hS hp rfl rfl rfl, setP_N3 hN hp rfl (by omega)⟩
    · exact ⟨hS, hup⟩
  · exact ⟨hS, hup⟩
end Go.Proofs.YtgibbaadjbohdaaDoor
/- parts: what a work keeps: histories. No conditions. -/
namespace Go.Proofs.YtgibbaadjbohdaaDoor
open Go Go.RowKit Lift

structure PW (F w : Nat) (p : Prt) : Prop where
  r6 : ∀ r ∈ p.hist, r.length = 6
  ln : p.hist.length ≤ w
  on : 0 ≤ p.m → ∃ fr m0 l0 f0 t0 hh cc, p.hist = fr ++ [[m0, l0, f0, t0, hh, cc]] ∧ 0 ≤ m0 ∧ m0.toNat < F
structure HsW (S : Hg) (w : Nat) : Prop where
  m0 : 0 ≤ S.rg.ms
  m4 : S.rg.ms ≤ 4
  fl : S.fl.length = S.rg.ms.toNat
  pt : ∀ p ∈ S.pts, PW S.fl.length w p
theorem PW.up {F w w' : Nat} {p : Prt} (h : PW F w p) (hw : w ≤ w') : PW F w' p := ⟨h.r6, Nat.le_trans h.ln hw, h.on⟩
theorem HsW.up {S : Hg} {w w' : Nat} (h : HsW S w) (hw : w ≤ w') : HsW S w' := ⟨h.m0, h.m4, h.fl, fun p hp => (h.pt p hp).up hw⟩
theorem HsW.mach {S : Hg} {w : Nat} (h : HsW S w) {m : Int} (hm : machB S m = true) : 0 ≤ m ∧ m.toNat < S.fl.length := by
  unfold machB at hm
  have h0 := h.m0
  have h4 := h.m4
  have hf := h.fl
  have := wI_t hm
  rw [w64_in (by omega) (by omega)] at this
  omega
theorem HsW.ok {S : Hg} {w : Nat} (h : HsW S w) (hw : w ≤ 1000) : HsOk S := by
  refine ⟨fun m hm => h.mach hm, fun p hp => ⟨(h.pt p hp).r6, Nat.le_trans (h.pt p hp).ln hw⟩, fun p hp hm => ?_⟩
  have hq := h.pt p hp
  obtain ⟨fr, m0, l0, f0, t0, hh, cc, e, a1, a2⟩ := hq.on hm
  have h6 := hq.r6
  have hl := hq.ln
  rw [e] at h6 hl
  refine ⟨fr, m0, l0, f0, t0, hh, cc, e, a1, a2, fun r hr => h6 r (List.mem_append.2 (.inl hr)), ?_⟩
  simp at hl
  omega
theorem setP_W {S : Hg} {w w' i : Nat} {p' : Prt} (h : HsW S w) (hw : w ≤ w') (hp : PW S.fl.length w' p') : HsW (S.setP i p') w' := by
  refine ⟨h.m0, h.m4, h.fl, fun q hq => ?_⟩
  rcases List.mem_or_eq_of_mem_set hq with h1 | rfl
  · exact (h.pt q h1).up hw
  · exact hp
theorem flN_W {S : Hg} {w : Nat} (h : HsW S w) (m hh c : Int) : ∀ i, i ≤ S.pts.length → HsW (flN S m hh c i) w
  | 0, _ => h
  | i + 1, hi => by
    have ih := flN_W h m hh c i (by omega)
    have hf := (flN_like S m hh c i).fl
    unfold flN
    split
    · exact ih
    · have hp := h.pt _ (List.mem_of_getElem? (prtAt_at (show i < S.pts.length by omega)))
      refine setP_W ih (Nat.le_refl _) ?_
      rw [hf]
      exact ⟨hp.r6, hp.ln, hp.on⟩
theorem setF_W {S : Hg} {w : Nat} (h : HsW S w) (l : List (Int × Int)) (hl : l.length = S.fl.length) : HsW (S.setF l) w :=
  ⟨h.m0, h.m4, hl.trans h.fl, fun p hp => by show PW l.length w p; rw [hl]; exact h.pt p hp⟩
theorem do_W {S : Hg} {w : Nat} (hS : HgrOk S) (h : HsW S w) (N : Nat) (k a b c : Int) : HsW (doS S N k a b c) (w + 1) := by
  have hup := h.up (w' := w + 1) (by omega)
  unfold doS
  by_cases h1 : k = 1
  · rw [if_pos h1]
    unfold flyS
    split
    · refine setF_W ((flN_W h a b c S.pts.length (Nat.le_refl _)).up (by omega)) _ ?_
      rw [(flN_like S a b c S.pts.length).fl]
      simp [flyF]
    · exact hup
  rw [if_neg h1]
  by_cases h2 : k = 2
  · rw [if_pos h2]
    unfold ftS
    split
    · rename_i hb
      unfold ftB at hb
      simp only [Bool.and_eq_true] at hb
      have hp := h.pt _ (List.mem_of_getElem? (prtAt_at (partB_t hS.np hb.1.1).2))
      have hm := h.mach hb.1.2
      refine setP_W h (by omega) ⟨fun r hr => ?_, ?_, fun _ => ⟨_, _, _, _, _, _, _, rfl, hm.1, hm.2⟩⟩
      · have hr' : r ∈ (prtAt S a.toNat).hist ++ [_] := hr
        rcases List.mem_append.1 hr' with h3 | h3
        · exact hp.r6 r h3
        · rw [List.mem_singleton.1 h3]; rfl
      · have := hp.ln
        show ((prtAt S a.toNat).hist ++ [_]).length ≤ _
        simp; omega
    · exact hup
  rw [if_neg h2]
  by_cases h3 : k = 3
  · rw [if_pos h3]
    unfold tkS
    split
    · rename_i hb
      unfold tkB at hb
      simp only [Bool.and_eq_true, Bool.not_eq_true', decide_eq_false_iff_not] at hb
      have hp := h.pt _ (List.mem_of_getElem? (prtAt_at (partB_t hS.np hb.2.1).2))
      obtain ⟨fr, m0, l0, f0, t0, hh, cc, e, -, -⟩ := hp.on (by omega)
      have hr6 := hp.r6
      have hl := hp.ln
      rw [e] at hl
      refine setP_W h (by omega) ⟨fun r hr => ?_, ?_, fun hm => ?_⟩
      · have hr' : r ∈ (prtAt S a.toNat).hist.dropLast ++ [_] := hr
        rcases List.mem_append.1 hr' with h3 | h3
        · exact hr6 r (List.dropLast_subset _ h3)
        · rw [List.mem_singleton.1 h3]; rfl
      · show ((prtAt S a.toNat).hist.dropLast ++ [_]).length ≤ _
        rw [e]
        simp at hl ⊢; omega
      · exact absurd (show (0 : Int) ≤ -1 from hm) (by omega)
    · exact hup
  rw [if_neg h3]
  by_cases h4 : k = 4
  · rw [if_pos h4]
    unfold isuS
    split
    · exact ⟨hup.m0, hup.m4, hup.fl, hup.pt⟩
    · exact hup
  rw [if_neg h4]
  by_cases h5 : k = 5
  · rw [if_pos h5]
    split
    · unfold chS
      split
      · rename_i hb
        unfold chB at hb
        simp only [Bool.and_eq_true] at hb
        have hp := h.pt _ (List.mem_of_getElem? (prtAt_at (partB_t hS.np hb.1.1).2))
        exact setP_W h (by omega) ⟨hp.r6, by have := hp.ln; exact Nat.le_trans this (by omega), hp.on⟩
      · exact hup
    · exact hup
  rw [if_neg h5]
  split
  · unfold scrS
    split
    · rename_i hb
      unfold scrB at hb
      simp only [Bool.and_eq_true] at hb
      have hp := h.pt _ (List.mem_of_getElem? (prtAt_at (partB_t hS.np hb.2.1).2))
      exact setP_W h (by omega) ⟨hp.r6, by have := hp.ln; exact Nat.le_trans this (by omega), fun hm => absurd (show (0 : Int) ≤ -2 from hm) (by omega)⟩
    · exact hup
  · exact hup
end Go.Proofs.YtgibbaadjbohdaaDoor
