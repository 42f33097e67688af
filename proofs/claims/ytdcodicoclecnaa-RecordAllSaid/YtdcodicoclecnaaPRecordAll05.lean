/- Texts of the law RecordAll, part 5. No conditions. -/
import Derived.Test.YtdcodicoclecnaaPRecordAll04
import Derived.Test.YtdcodicoclecnaaRows
set_option linter.unusedSimpArgs false
set_option linter.unusedVariables false
/- record: the loop over the samples of a field, whatever its body does. No conditions. -/
namespace Go.Proofs.Ytdcodicoclecnaa.Lift
open Go Go.RowKit

def CT (n : Nat) : List D → List D → Prop
  | [], [] => True
  | x :: c, y :: c' => (y = x ∨ ∃ a r k, x = .yld a r k ∧ y = .yref a) ∧ In (· < n) y ∧ CT n c c'
  | _, _ => False
theorem CT.get {n : Nat} : ∀ {c c' : List D}, CT n c c' → c.length = c'.length ∧ ∀ i (h : i < c.length) (h' : i < c'.length), (c'[i] = c[i] ∨ ∃ a r k, c[i] = .yld a r k ∧ c'[i] = .yref a) ∧ In (· < n) c'[i]
  | [], [], _ => ⟨rfl, fun i h => by simp at h⟩
  | [], _ :: _, h => h.elim
  | _ :: _, [], h => h.elim
  | x :: c, y :: c', h => by
    obtain ⟨h1, h2⟩ := CT.get h.2.2
    refine ⟨by simp [h1], fun i hi hi' => ?_⟩
    cases i with
    | zero => exact ⟨h.1, h.2.1⟩
    | succ i => exact h2 i (by simpa using hi) (by simpa using hi')
theorem CT.refl {n : Nat} : ∀ {c : List D}, (∀ d ∈ c, In (· < n) d) → CT n c c
  | [], _ => trivial
  | d :: c, h => ⟨.inl rfl, h d (List.mem_cons_self ..), CT.refl fun x hx => h x (List.mem_cons_of_mem _ hx)⟩
theorem wk_ref {pre : List Nat} {s s' : St} (hpre : ∀ g ∈ pre, g < s'.nx) (hE : EL s'.nx s.env s'.env) (hH : ∀ g c', hget s'.hp g = some c' → g < s'.nx ∧ ∃ c, hget s.hp g = some c ∧ CT s'.nx c c') : Wk pre s s' := by
  rintro C a w rfl ⟨β, Z, h, hβ⟩
  obtain ⟨β', hb'⟩ : ∃ β' : Bet, β' = fun g => if g < s'.nx then β g else none := ⟨_, rfl⟩
  have eq : ∀ g, g < s'.nx → β' g = β g := fun g hg => by rw [hb']; exact if_pos hg
  have no : ∀ g, s'.nx ≤ g → β' g = none := fun g hg => by rw [hb']; exact if_neg (by omega)
  have back : ∀ g B, β' g = some B → β g = some B := fun g B hB => by
    by_cases hg : g < s'.nx
    · rw [← eq g hg]; exact hB
    · rw [no g (by omega)] at hB; cases hB
  refine ⟨β', Z, ⟨h.size, h.defers, fun t => ?_, fun g c hc => ?_, fun g g' c c' B hc hc' hb hb'' => ?_, h.fr, h.z0, h.old, fun g c B hc hB => ?_, fun g hg B hB => ?_, h.zlt⟩, no⟩
  · show Rep w _ Z _ (eget s'.env t)
    rcases hE.get t with h1 | ⟨h1, h2⟩
    · rw [h1]; exact .bot _
    · rw [h1] at h2 ⊢
      exact (h.env t).rename h2 eq
  · obtain ⟨h1, c0, h2, h3⟩ := hH g c hc
    obtain ⟨h4, h5⟩ := h3.get
    rcases h.objs g c0 h2 with ⟨h6, h7⟩ | ⟨B, cs, e, hO⟩
    · subst h6
      have : c = [] := List.length_eq_zero_iff.1 h4.symm
      subst this
      exact .inl ⟨rfl, by rw [eq g h1]; exact h7⟩
    · refine .inr ⟨B, cs, e, by rw [eq g h1]; exact hO.at_, hO.ours, hO.block, by rw [← h4]; exact hO.fits, fun i hi => ?_⟩
      have hi0 : i < c0.length := by omega
      obtain ⟨h8, h9⟩ := h5 i hi0 hi
      have hr := hO.rep i hi0
      rcases h8 with h8 | ⟨a, r, k, h8, h10⟩
      · rw [h8] at h9 ⊢
        exact hr.rename h9 eq
      · rw [h8] at hr
        rw [h10] at h9 ⊢
        cases h9 with
        | yref _ ha =>
          generalize cs.getD i undef = v at hr
          cases hr with
          | yld _ l _ _ y1 => exact .yref a l ((eq a ha).trans y1)
  · obtain ⟨_, c1, h2, _⟩ := hH g c hc
    obtain ⟨_, c2, h3, _⟩ := hH g' c' hc'
    exact h.inj g g' c1 c2 B h2 h3 (back _ _ hb) (back _ _ hb'')
  · obtain ⟨_, c1, h2, _⟩ := hH g c hc
    exact h.orig g c1 B h2 (back _ _ hB)
  · have h1 := h.ext g hg B hB
    rw [eq g (hpre g hg)]; exact h1
theorem hget_put (h : Hp) (t u : Nat) (d : List D) : hget (hput h t d) u = if t = u then some d else hget h u := by
  induction h with
  | nil => simp [hput, hget]
  | cons x r ih =>
    obtain ⟨k, e⟩ := x
    simp only [hput]
    by_cases hk : k = t
    · subst hk
      rw [if_pos rfl]
      simp only [hget]
      split <;> rfl
    · rw [if_neg hk]
      simp only [hget, ih]
      by_cases h1 : k = u
      · subst h1; rw [if_pos rfl, if_pos rfl, if_neg fun h => hk h.symm]
      · rw [if_neg h1, if_neg h1]
theorem kOK_of {k : List D} (h : k.all (noY 9) = true) : kOK k = true := by
  refine List.all_eq_true.2 fun d hd => ?_
  have h1 := List.all_eq_true.1 h d hd
  cases d <;> first | exact h1 | (simp [noY] at h1)
theorem LowH.up {n m : Nat} {h : Hp} (h1 : LowH n h) (hm : n ≤ m) : LowH m h := ⟨h1.get hm, h1.2⟩
end Go.Proofs.Ytdcodicoclecnaa.Lift
namespace Go.Proofs.Ytdcodicoclecnaa
open Go Go.RowKit Lift

def smH (l : Lay) (frs : List (List Int)) (f : Fl) (h : Hp) : Hp := (96, tpC l frs) :: (120, [.ptr 96 0]) :: (121, flC f) :: (808, [.yref 800]) :: h
theorem flC_in (S : Nat → Prop) (f : Fl) : ∀ d ∈ flC f, In S d := by
  intro d hd; simp [flC] at hd; rcases hd with rfl | rfl | rfl | rfl | rfl | rfl | rfl | rfl | rfl <;> exact .val _
theorem smT_low {f : Fl} {h : Hp} (h1 : LowH 800 h) : LowH 1000 ((120, [.ptr 96 0]) :: (121, flC f) :: (808, [.yref 800]) :: h) :=
  .cons (nlt rfl) (by intro d hd; simp at hd; subst hd; exact .ptr _ _ (nlt rfl)) rfl (.cons (nlt rfl) (flC_in _ f) rfl (.cons (nlt rfl) (by intro d hd; simp at hd; subst hd; exact .yref _ (nlt rfl)) rfl (h1.up (nle rfl))))
set_option maxRecDepth 100000 in
set_option maxHeartbeats 4000000 in
theorem samples_round {n : Nat} {ps : List Nat} {asg : List (Nat × Nat)} {cb : ACode} {r : Loop} (hr : LoopIs Try.prog n ps asg cb r) (hps : ps.length = 2) (l : Lay) (frs : List (List Int)) (f : Fl) (hf : FOk l.words f) (hm : FrIn frs)
    (pin : List Nat) (hpin : ∀ g ∈ pin, g < 800) (k : List D) (hk : k.all (noY 9) = true) (hkp : ∀ d ∈ k, In (· ∈ pin) d) (hp : Nat → Hp) (hlow : ∀ i, LowH 800 (hp i))
    (i : Nat) (hi : i < frs.length) (hs : 0 ≤ subF l (frm frs i)) (hno : smp l f (frm frs i) = none → hp (i + 1) = hp i)
    (hb : ∀ v, smp l f (frm frs i) = some v → AWb true Try.prog n (1000 :: 800 :: 808 :: pin) cb (fun e s => e = .norm ∧ Wk (1000 :: 800 :: 808 :: pin) s ⟨[], smH l frs f (hp (i + 1)), 1500⟩) ⟨bodyE k ps [dI i, dI v] asg, smH l frs f (hp i), 1500⟩) :
    AWb true Try.prog 35 (1000 :: 800 :: 808 :: pin) cprecord_tape_samples_S1_B8 (fun e s => e = .norm ∧ Wk (1000 :: 800 :: 808 :: pin) s ⟨[], smH l frs f (hp (i + 1)), 1300⟩) ⟨bodyE [.yld 800 r k, .ptr 120 0, .ptr 121 0, .ptr 808 0] [8, 9] [dI i, dI (subF l (frm frs i))] [(4, 8), (5, 9)], smH l frs f (hp i), 1300⟩ := by
  have hmax : maxLen = 9223372036854775807 := rfl
  have hpre : ∀ g ∈ 1000 :: 800 :: 808 :: pin, g < 1300 := by
    intro g hg
    simp only [List.mem_cons] at hg
    rcases hg with rfl | rfl | rfl | hg
    · omega
    · omega
    · omega
    · have := hpin g hg; omega
  have hL : ∀ i, LowH 1000 (smH l frs f (hp i)) := fun i => .cons (nlt rfl) (tpC_in _ l frs) rfl (smT_low (hlow i))
  have ci := in_sub_ac hf (subF l (frm frs i))
  have hfm := hm.m i
  have hfo := subF_ok hs
  by_cases hin : inSub f (subF l (frm frs i))
  case neg =>
    have hsm : smp l f (frm frs i) = none := if_neg fun h => hin h.2
    rw [hno hsm]
    rw [inB_f hin] at ci
    have hfin : ∀ s : St, s.hp = smH l frs f (hp i) → (fun (e : AExit) s => e = .norm ∧ Wk (1000 :: 800 :: 808 :: pin) s ⟨[], smH l frs f (hp i), 1300⟩) .norm s := fun s h => ⟨rfl, wk_low hpre h.symm trivial (by rw [h]; exact (hL i).get (nle rfl))⟩
    generalize (fun (e : AExit) (s : St) => e = .norm ∧ Wk (1000 :: 800 :: 808 :: pin) s ⟨[], smH l frs f (hp i), 1300⟩) = QQ at hfin
    unfold cprecord_tape_samples_S1_B8
    unfold smH tpC flC at *
    refine aw_block (aw_seq (aw_region ?_))
    simp (disch := first | exact okY | omega) only [thenQ, List.length, Nat.zero_add, Nat.reduceAdd, Nat.reduceMul, bodyE, asgE, parE, envOf, dI, eput_c, Nat.reduceBEq, eput_n, cond_false, eget_c, ↓eget_h, dB, ARun_none, AOpRun, aexec, FSt.ev, St.F, hget_c, ↓hget_h, Nat.reduceLeDiff, ↓reduceIte, List.drop, List.take, AGo_ok, St.app, putO, hups, List.map]
    refine acall0 ci ?_
    simp (disch := first | exact okY | omega) only [Nat.reduceAdd, St.app, putO, dB, eput_c, Nat.reduceBEq, eput_n, cond_false, hups, ARun_none, AOpRun, aexec, FSt.ev, St.F, eget_c, ↓eget_h, AGo_ok, List.map, ARun_some, AG_ft, Bool.false_eq_true, ↓reduceIte, ARun_nil, dropE_c, inL_c, inL_n, beq_self_eq_true, cond_true, dropE_n]
    refine aw_condF rfl (aw_skip ?_)
    simp only [thenQ, blockQ, if_true, if_false, Nat.reduceEqDiff, reduceCtorEq]
    exact hfin _ rfl
  rw [inB_t hin] at ci
  obtain ⟨hfl, hfa⟩ := hfo
  have w1 := hf.w1
  have w2 := hf.w2
  have hwl : f.word.toNat < (frm frs i).length := by omega
  have hwI : f.word < ((frm frs i).length : Int) := by omega
  have hw0 : 0 ≤ f.word := by omega
  have h4 : wOk ((frm frs i)[f.word.toNat]?.getD 0) = true := by
    rw [List.getElem?_eq_getElem hwl]
    exact List.all_eq_true.1 hfa _ (List.getElem_mem hwl)
  have h5 : 0 ≤ (frm frs i)[f.word.toNat]?.getD 0 ∧ (frm frs i)[f.word.toNat]?.getD 0 ≤ 4095 := by unfold wOk at h4; simpa using h4
  have hsm : smp l f (frm frs i) = some (valI f (rawI f ((frm frs i)[f.word.toNat]?.getD 0).toNat)) := if_pos ⟨hs, hin⟩
  have g2 := ints_gd (frm frs i) f.word.toNat hwl
  have hb2 := hb _ hsm
  have hx : (frm frs i)[f.word.toNat]?.getD 0 = ((((frm frs i)[f.word.toNat]?.getD 0).toNat : Nat) : Int) := (Int.toNat_of_nonneg h5.1).symm
  rw [hx] at g2
  have hxl : ((frm frs i)[f.word.toNat]?.getD 0).toNat < 4096 := by omega
  generalize ((frm frs i)[f.word.toNat]?.getD 0).toNat = x at g2 hb2 hxl
  have g1 := rows_gd frs i hi
  rw [show frs[i]?.getD [] = frm frs i from rfl] at g1
  have cr := raw_ac hf x hxl
  have cv := value_ac hf x
  have hfin : ∀ s : St, s.hp = smH l frs f (hp (i + 1)) → (fun (e : AExit) s => e = .norm ∧ Wk (1000 :: 800 :: 808 :: pin) s ⟨[], smH l frs f (hp (i + 1)), 1300⟩) .norm s := fun s h => ⟨rfl, wk_low hpre h.symm trivial (by rw [h]; exact (hL (i + 1)).get (nle rfl))⟩
  generalize (fun (e : AExit) (s : St) => e = .norm ∧ Wk (1000 :: 800 :: 808 :: pin) s ⟨[], smH l frs f (hp (i + 1)), 1300⟩) = QQ at hfin
  have hL2 := hL
  have ki : (i : Int) < (frs.length : Int) := by omega
  generalize frm frs i = fr at *
  unfold cprecord_tape_samples_S1_B8
  unfold smH tpC flC at *
  refine aw_block (aw_seq (aw_region_yieldD hr
    [⟨some 10, .loadN 9 (.tmp 2), none, []⟩,
       ⟨some 11, .mv (.tmp 5), none, []⟩,
       ⟨some 12, .call (.func 77) [(.tmp 10), (.tmp 11)], none, [0, 1]⟩,
       ⟨some 13, .mv (.tmp 12), none, [2, 0, 1]⟩,
       ⟨some 14, .load1 (.tmp 3), (some (some 13, true)), [3, 2, 0, 1]⟩,
       ⟨some 15, .mv (.tmp 4), (some (some 13, true)), [3, 2, 0, 1]⟩,
       ⟨some 16, .loadN 9 (.tmp 2), (some (some 13, true)), [3, 2, 0, 1]⟩,
       ⟨some 17, .loadN 9 (.tmp 2), (some (some 13, true)), [3, 2, 0, 1]⟩,
       ⟨some 18, .load1 (.tmp 1), (some (some 13, true)), [3, 2, 0, 1]⟩,
       ⟨some 19, .nilc (.tmp 18), (some (some 13, true)), [8, 3, 2, 0, 1]⟩,
       ⟨some 20, .fad 6 (.tmp 19), (some (some 13, true)), [9, 8, 3, 2, 0, 1]⟩,
       ⟨some 21, .load1 (.tmp 20), (some (some 13, true)), [10, 9, 8, 3, 2, 0, 1]⟩,
       ⟨some 22, .mv (.tmp 4), (some (some 13, true)), [3, 2, 0, 1]⟩,
       ⟨some 23, .iadS 1 (.tmp 21) (.tmp 22), (some (some 13, true)), [11, 10, 9, 8, 3, 2, 0, 1, 12]⟩,
       ⟨some 24, .load1 (.tmp 23), (some (some 13, true)), [13, 11, 10, 9, 8, 3, 2, 0, 1, 12]⟩,
       ⟨some 25, .fad 0 (.tmp 2), (some (some 13, true)), [3, 2, 0, 1]⟩,
       ⟨some 26, .fad 0 (.tmp 25), (some (some 13, true)), [15, 3, 2, 0, 1]⟩,
       ⟨some 27, .load1 (.tmp 26), (some (some 13, true)), [16, 15, 3, 2, 0, 1]⟩,
       ⟨some 28, .iadS 1 (.tmp 24) (.tmp 27), (some (some 13, true)), [14, 13, 11, 10, 9, 8, 3, 2, 0, 1, 12, 17, 16, 15]⟩,
       ⟨some 29, .load1 (.tmp 28), (some (some 13, true)), [18, 14, 13, 11, 10, 9, 8, 3, 2, 0, 1, 12, 17, 16, 15]⟩,
       ⟨some 30, .call (.func 115) [(.tmp 17), (.tmp 29)], (some (some 13, true)), [7, 3, 2, 0, 1, 19, 18, 14, 13, 11, 10, 9, 8, 12, 17, 16, 15]⟩,
       ⟨some 31, .call (.func 114) [(.tmp 16), (.tmp 30)], (some (some 13, true)), [6, 3, 2, 0, 1, 20, 7, 19, 18, 14, 13, 11, 10, 9, 8, 12, 17, 16, 15]⟩]
    [⟨some 33, .un .not (.tmp 32), (some (some 13, true)), [22, 4, 3, 2, 0, 1, 5, 21, 6, 20, 7, 19, 18, 14, 13, 11, 10, 9, 8, 12, 17, 16, 15]⟩,
       ⟨some 34, .pick (.tmp 13) (.tmp 33) (.const (.bool false)), none, [3, 2, 0, 1, 23, 22, 4, 5, 21, 6, 20, 7, 19, 18, 14, 13, 11, 10, 9, 8, 12, 17, 16, 15]⟩] (by decide) (by decide) ?_))
  simp (disch := first | exact okY | omega) only [List.length, Nat.zero_add, Nat.reduceAdd, Nat.reduceMul, bodyE, asgE, parE, envOf, dI, eput_c, Nat.reduceBEq, eput_n, cond_false, eget_c, ↓eget_h, dB, ARun_none, AOpRun, aexec, FSt.ev, St.F, hget_c, ↓hget_h, Nat.reduceLeDiff, ↓reduceIte, List.drop, List.take, AGo_ok, St.app, putO, hups, List.map]
  refine acall0 ci ?_
  simp (disch := first | exact okY | omega) only [Nat.reduceAdd, St.app, putO, dB, eput_c, Nat.reduceBEq, eput_n, cond_false, hups, ARun_none, AOpRun, aexec, FSt.ev, St.F, eget_c, ↓eget_h, AGo_ok, List.map, ARun_some, AG_tt, Option.map, run1, hget_c, ↓hget_h, Nat.zero_add, List.getElem?_cons_zero, List.length, Nat.reduceLeDiff, ↓reduceIte, List.drop, List.take, beq_self_eq_true, cond_true, List.getElem?_cons_succ, Int.natCast_nonneg, rows_all, and_self, opt1, Int.toNat_natCast, g1, hw0, ints_all, g2]
  refine acall0 cr ?_
  simp (disch := first | exact okY | omega) only [Nat.reduceAdd, St.app, putO, dI, eput_c, Nat.reduceBEq, eput_n, cond_false, hups, ARun_some, eget_c, ↓eget_h, AG_tt, AOpRun, FSt.ev, List.map, St.F]
  refine acall0 cv ?_
  simp (disch := first | exact okY | omega) only [Nat.reduceAdd, St.app, putO, dI, eput_c, Nat.reduceBEq, eput_n, cond_false, hups, ARun_nil]
  refine yieldKD (1000 :: 800 :: 808 :: pin) [(13, dB true)] [dI i, dI (valI f (rawI f x))] (.inr ⟨rfl, 0, rfl⟩) rfl rfl hr hps.symm rfl (kOK_of hk) (hL2 i).2 (fun g hg => hg) ⟨.inr ⟨rfl, .val _⟩, trivial⟩ ?_
  refine aw_wk (wk_up (m := 1500) (by decide)) (aw_post hb2 ?_)
  rintro e s ⟨rfl, hw⟩
  refine ⟨_, hw, yieldQD (hL2 (i + 1)).2 (nle rfl) ?_⟩
  simp (disch := first | exact okY | omega) only [Nat.reduceAdd, Nat.reduceMul, Nat.reduceSub, thenQ, List.length, Nat.zero_add, putO, dB, eput_c, Nat.reduceBEq, eput_n, cond_false, dI, ARun_some, eget_c, beq_self_eq_true, eget_n, cond_true, AG_tt, AOpRun, aexec, FSt.ev, St.F, ↓eget_h, Bool.not_true, AGo_ok, St.app, hups, List.map, ARun_none, ↓reduceIte, ARun_nil, dropE_c, inL_c, inL_n, dropE_n]
  refine aw_condF rfl (aw_skip ?_)
  simp only [thenQ, blockQ, if_true, if_false, Nat.reduceEqDiff, reduceCtorEq]
  exact hfin _ rfl
set_option maxRecDepth 100000 in
set_option maxHeartbeats 4000000 in
theorem samples_hit {n : Nat} {ps : List Nat} {asg : List (Nat × Nat)} {cb : ACode} {r : Loop} (hr : LoopIs Try.prog n ps asg cb r) (hps : ps.length = 2) (l : Lay) (frs : List (List Int)) (hn : frs.length ≤ 200) (hok : LayOk l) (f : Fl) (hf : FOk l.words f) (hm : FrIn frs)
    (pin : List Nat) (hpin : ∀ g ∈ pin, g < 800) (k : List D) (hk : k.all (noY 9) = true) (hkp : ∀ d ∈ k, In (· ∈ pin) d) (h96 : 96 ∈ pin) (h120 : 120 ∈ pin) (h121 : 121 ∈ pin) (hp : Nat → Hp) (hlow : ∀ i, LowH 800 (hp i)) {Q : AExit → St → Prop} {env' : Env}
    (hno : ∀ i, i < frs.length → smp l f (frm frs i) = none → hp (i + 1) = hp i)
    (hb : ∀ i v, i < frs.length → smp l f (frm frs i) = some v → AWb true Try.prog n (1000 :: 800 :: 808 :: pin) cb (fun e s => e = .norm ∧ Wk (1000 :: 800 :: 808 :: pin) s ⟨[], smH l frs f (hp (i + 1)), 1500⟩) ⟨bodyE k ps [dI i, dI v] asg, smH l frs f (hp i), 1500⟩)
    (hQ : Q .norm ⟨env', smH l frs f (hp frs.length), 1100⟩) : AWb false Try.prog 35 pin cprecord_tape_samples_S1 (RangeQ Q env') ⟨envOf 0 [.yld 800 r k, .ptr 120 0, .ptr 121 0], (96, tpC l frs) :: (120, [.ptr 96 0]) :: (121, flC f) :: hp 0, 808⟩ := by
  have hkO : kOK [.yld 800 r k, .ptr 120 0, .ptr 121 0, .ptr 808 0] = true := by simp only [kOK, List.all_cons, hk]; rfl
  have hpre : ∀ m, 809 ≤ m → ∀ g ∈ 800 :: 808 :: pin, g < m := fun m hm g hg => by
    simp only [List.mem_cons] at hg
    rcases hg with rfl | rfl | hg
    · omega
    · omega
    · have := hpin g hg; omega
  have hky : ∀ S : Nat → Prop, S 800 → (∀ g ∈ pin, S g) → In S (.yld 800 r k) := fun S h1 h2 => .yld _ _ _ h1 fun d hd => (hkp d hd).mono fun g hg => h2 g hg
  have hkp2 : ∀ d ∈ [D.yld 800 r k, .ptr 120 0, .ptr 121 0, .ptr 808 0], In (· ∈ 800 :: 808 :: pin) d := by
    intro d hd
    simp only [List.mem_cons, List.not_mem_nil, or_false] at hd
    rcases hd with rfl | rfl | rfl | rfl
    · exact hky _ (by simp) fun g hg => by simp [hg]
    · exact .ptr _ _ (by simp [h120])
    · exact .ptr _ _ (by simp [h121])
    · exact .ptr _ _ (by simp)
  have h8 : hget (hp 0) 808 = none := by
    cases h : hget (hp 0) 808 with
    | none => rfl
    | some c => have := ((hlow 0).1 _ _ h).1; omega
  unfold cprecord_tape_samples_S1
  refine aw_seq (aw_region ?_)
  simp (disch := first | exact okY | omega) only [thenQ, List.length, Nat.zero_add, Nat.reduceMul, Nat.reduceAdd, envOf, ARun_none, AOpRun, aexec, D.isBot, FSt.ev, St.F, ↓eget_h, Bool.false_eq_true, Option.isSome, hget_c, Nat.reduceBEq, h8, cond_false, or_self, ↓reduceIte, D.cells, AGo_ok, St.app, putO, eput_c, eput_n, hups, hput_c, List.map, ARun_nil, dropE_c, inL_n, dropE_n]
  refine aw_seq (aw_region ?_)
  simp (disch := first | exact okY | omega) only [thenQ, List.length, Nat.zero_add, Nat.reduceAdd, Nat.reduceMul, ARun_none, AOpRun, aexec, Option.map, run1, FSt.ev, St.F, eget_c, Nat.reduceBEq, ↓eget_h, cond_false, hget_c, ↓hget_h, List.getElem?_cons_zero, AGo_ok, St.app, putO, eput_c, eput_n, hups, List.map, ARun_nil, dropE_c, inL_c, inL_n, beq_self_eq_true, cond_true, dropE_n]
  refine aw_wk (s' := ⟨[(0, .yld 800 r k), (1, .ptr 120 0), (2, .ptr 121 0), (3, .ptr 808 0), (7, .fn 72 [.ptr 96 0] [])], smH l frs f (hp 0), 1000⟩) (wk_ref (fun g hg => by have := hpin g hg; show g < 1000; omega)
    ⟨rfl, hky _ (nlt rfl) (fun g hg => by have := hpin g hg; show g < 1000; omega), rfl, .ptr _ _ (nlt rfl), rfl, .ptr _ _ (nlt rfl), rfl, .ptr _ _ (nlt rfl), rfl, .fn _ _ _ (by intro d hd; simp at hd; subst hd; exact .ptr _ _ (nlt rfl)) (by simp), trivial⟩ ?_) ?_
  · intro g c hc
    simp only [smH, hget] at hc
    simp only [hget, hget_put]
    split at hc
    · cases hc; rename_i h; subst h; exact ⟨nlt rfl, _, rfl, CT.refl (tpC_in _ l frs)⟩
    split at hc
    · cases hc; rename_i h; subst h; exact ⟨nlt rfl, _, rfl, CT.refl (by intro d hd; simp at hd; subst hd; exact .ptr _ _ (nlt rfl))⟩
    split at hc
    · cases hc; rename_i h; subst h; exact ⟨nlt rfl, _, rfl, CT.refl (flC_in _ f)⟩
    split at hc
    · cases hc; rename_i h; subst h; exact ⟨nlt rfl, _, rfl, ⟨.inr ⟨_, _, _, rfl, rfl⟩, .yref _ (nlt rfl), trivial⟩⟩
    · have h1 := (hlow 0).1 g c hc
      refine ⟨by show g < 1000; omega, c, ?_, CT.refl fun d hd => (h1.2 d hd).mono fun x hx => by show x < 1000; omega⟩
      rename_i q1 q2 q3 q4
      simp [q1, q2, q3, q4, hc]
  refine aw_block (aw_range (800 :: 808 :: pin) [] [.yld 800 r k, .ptr 120 0, .ptr 121 0, .ptr 808 0] kprecord_tape_good rfl (by simp) ⟨.inr rfl, .inr rfl, .inr rfl, .inr rfl, trivial⟩ hkO ?_ (fun g hg => by simp [hg]) trivial (fun r2 hr2 => ?_))
  · show hget (smH l frs f (hp 0)) 1000 = none
    simp only [smH, hget, Nat.reduceEqDiff, if_false]
    cases h : hget (hp 0) 1000 with
    | none => rfl
    | some c => have := (hlow 0).1 _ _ h; omega
  refine good_hit hr2 rfl l frs hn (800 :: 808 :: pin) (hpre 1000 (nle rfl)) [.yld 800 r k, .ptr 120 0, .ptr 121 0, .ptr 808 0] hkO hkp2 (by simp [h96]) (fun i => (120, [.ptr 96 0]) :: (121, flC f) :: (808, [.yref 800]) :: hp i) (fun i => smT_low (hlow i)) (fun i hi hs => ?_) (fun i hi hs => ?_) ?_
  · rw [hno i hi (if_neg fun h => hs h.1)]
  · exact samples_round hr hps l frs f hf hm pin hpin k hk hkp hp hlow i hi hs (hno i hi) (fun v hv => hb i v hi hv)
  · simp only [blockQ]
    exact rangeQ (.inl rfl) ((smT_low (hlow _)).cons (nlt rfl) (tpC_in _ l frs) rfl).2 hQ
end Go.Proofs.Ytdcodicoclecnaa
/- record: a field's samples, a tape that has fields. No conditions. -/
namespace Go.Proofs.Ytdcodicoclecnaa
open Go.RowKit Lift

theorem fAt_ok {l : Lay} (h : LayOk l) {k : Nat} (hk : k < l.fl.length) : FOk l.words (fAt l k) := h.fo k hk
set_option maxRecDepth 100000 in
set_option maxHeartbeats 2000000 in
theorem samples_ac (l : Lay) (frs : List (List Int)) (k : Nat) (hk : k < l.fl.length) (hn : l.fl.length ≤ 1000) : AC Try.prog 67 [.ptr 96 0, dI k] [(96, tpC l frs)] [(96, some (tpC l frs)), (120, some [.ptr 96 0]), (121, some (flC (fAt l k)))] (.fn 113 [] [.ptr 120 0, .ptr 121 0]) := by
  refine kprecord_tape_samples.ac (n0 := 200) (by simp) ⟨.ptr _ _ (by omega), .val _, trivial⟩ ⟨⟨by omega, tpC_in _ _ _⟩, trivial⟩ rfl ?_
  unfold cprecord_tape_samples
  unfold tpC
  have g1 : (fls l.fl)[k]? = some (flC (fAt l k)) := fls_gd l.fl k hk
  unfold flC at g1 ⊢
  have ki : (k : Int) < (l.fl.length : Int) := by omega
  have fa := fls_all l.fl
  have fl := fls_len l.fl
  (repeat' (first | (with_reducible first | refine thenQ_n ?_ | refine blockQ_n ?_ | refine thenQ_e ?_ | refine blockQ_t ?_ | refine blockQ_f (by decide) ?_) | apply aw_seq | apply aw_skip | apply aw_exit | apply aw_ret | apply aw_block | apply aw_condT rfl | apply aw_condF rfl | ((first | refine aw_hide fun K hK => aw_region ?_ | refine ago_if (by omega) ?_ | skip); simp (disch := first | exact okY | omega) only [List.length, Nat.zero_add, Nat.reduceAdd, Nat.reduceMul, envOf, dI, ARun_none, AOpRun, aexec, D.isBot, FSt.ev, St.F, ↓eget_h, Bool.false_eq_true, Option.isSome, hget_c, Nat.reduceBEq, hget_n, cond_false, or_self, ↓reduceIte, D.cells, AGo_ok, St.app, putO, eput_c, eput_n, hups, hput_c, hput_n, List.map, ARun_nil, dropE_c, inL_n, dropE_n, Option.map, run1, eget_c, ↓hget_h, List.getElem?_cons_zero, beq_self_eq_true, cond_true, List.getElem?_cons_succ, Int.natCast_nonneg, fa, and_self, opt1, Int.toNat_natCast, g1, dB, Nat.reduceLeDiff, List.take, fillD, ne_eq, not_true_eq_false, Nat.reduceGT, splice, List.nil_append, List.drop, List.append_nil, List.all, D.leaf, Bool.and_true, inL_c]) | subst hK))
  refine end_q [] [(96, 96), (120, 200), (121, 288)] ?_ ?_ <;> repeat' (first | exact trivial | exact vr_val _ | exact vr_list _ | exact vr_ptr _ _ _ rfl | apply vr_fn | refine And.intro ⟨_, rfl, _, rfl, by decide, ?_⟩ ?_ | apply And.intro)
  all_goals first | exact tpC_in _ _ _ | exact flC_in _ _
set_option maxRecDepth 100000 in
set_option maxHeartbeats 2000000 in
theorem has_ac (l : Lay) (frs : List (List Int)) (x : Int) (hn : l.fl.length ≤ 1000) : AC Try.prog 112 [.ptr 96 0, dI x] [(96, tpC l frs)] [(96, some (tpC l frs))] (dB (wI x 0 ((l.fl.length : Int) - 1))) := by
  refine kprecord_tape_has.ac (n0 := 200) (by simp) ⟨.ptr _ _ (by omega), .val _, trivial⟩ ⟨⟨by omega, tpC_in _ _ _⟩, trivial⟩ rfl ?_
  unfold cprecord_tape_has
  unfold tpC
  have fl := fls_len l.fl
  (repeat' (first | (with_reducible first | refine thenQ_n ?_ | refine blockQ_n ?_ | refine thenQ_e ?_ | refine blockQ_t ?_ | refine blockQ_f (by decide) ?_) | apply aw_seq | apply aw_skip | apply aw_exit | apply aw_ret | apply aw_block | apply aw_condT rfl | apply aw_condF rfl | ((first | refine aw_hide fun K hK => aw_region ?_ | refine acall0 (within_ac _ _ _) ?_ | refine ago_if (by omega) ?_ | skip); simp (disch := first | exact okY | omega) only [List.length, Nat.zero_add, Nat.reduceMul, Nat.reduceAdd, envOf, dI, ARun_none, AOpRun, aexec, FSt.ev, AGo_ok, St.app, putO, eput_c, Nat.reduceBEq, eput_n, cond_false, hups, List.map, ARun_nil, dropE_c, inL_n, dropE_n, St.F, eget_c, ↓eget_h, Option.map, run1, hget_c, beq_self_eq_true, hget_n, cond_true, List.getElem?_cons_succ, List.getElem?_cons_zero, fl, isSh, Bool.false_eq_true, ↓reduceIte, abin, fits, dB, inL_c]) | subst hK))
  all_goals (refine end_q [] [(96, 96)] ?_ ?_ <;> repeat' (first | exact trivial | exact vr_val _ | exact vr_list _ | refine And.intro ⟨_, rfl, _, rfl, by decide, ?_⟩ ?_ | apply And.intro))
  all_goals exact tpC_in _ _ _
set_option maxRecDepth 100000 in
set_option maxHeartbeats 2000000 in
theorem hasF_ac (l : Lay) (frs : List (List Int)) (x : Int) (hn : l.fl.length ≤ 1000) : AC Try.prog 111 [dI x, .ptr 152 0] [(96, tpC l frs), (152, [.ptr 96 0])] [(96, some (tpC l frs)), (152, some [.ptr 96 0])] (dB (!wI x 0 ((l.fl.length : Int) - 1))) := by
  refine krecord_withField_S1.ac (n0 := 200) (by simp) ⟨.val _, .ptr _ _ (by omega), trivial⟩ ⟨⟨by omega, tpC_in _ _ _⟩, ⟨by omega, by intro d hd; simp at hd; subst hd; exact .ptr _ _ (by omega)⟩, trivial⟩ rfl ?_
  unfold crecord_withField_S1
  (repeat' (first | (with_reducible first | refine thenQ_n ?_ | refine blockQ_n ?_ | refine thenQ_e ?_ | refine blockQ_t ?_ | refine blockQ_f (by decide) ?_) | apply aw_seq | apply aw_skip | apply aw_exit | apply aw_ret | apply aw_block | apply aw_condT rfl | apply aw_condF rfl | ((first | refine aw_hide fun K hK => aw_region ?_ | refine acallB (has_ac l frs _ hn) (by repeat' (first | exact trivial | exact rfl | refine And.intro ?_ ?_)) (by kernel_rfl) (by kernel_rfl) (by kernel_rfl) ?_ | refine ago_if (by omega) ?_ | skip); simp (disch := first | exact okY | omega) only [List.length, Nat.zero_add, Nat.reduceMul, Nat.reduceAdd, envOf, dI, ARun_none, AOpRun, aexec, FSt.ev, AGo_ok, St.app, putO, eput_c, Nat.reduceBEq, eput_n, cond_false, hups, List.map, ARun_nil, dropE_c, inL_n, dropE_n, Option.map, run1, St.F, eget_c, ↓eget_h, hget_c, ↓hget_h, List.getElem?_cons_zero, dB, hput_c, beq_self_eq_true, hput_n, cond_true, List.append_nil, inL_c]) | subst hK))
  all_goals (refine end_q [] [(96, 96), (152, 152)] ?_ ?_ <;> repeat' (first | exact trivial | exact vr_val _ | exact vr_list _ | exact vr_ptr _ _ _ rfl | refine And.intro ⟨_, rfl, _, rfl, by decide, ?_⟩ ?_ | apply And.intro))
  all_goals exact tpC_in _ _ _
def hasA (l : Lay) (fs : List Int) : Bool := fs.all fun x => wI x 0 ((l.fl.length : Int) - 1)
set_option maxRecDepth 100000 in
set_option maxHeartbeats 4000000 in
theorem ihas_ac (l : Lay) (frs : List (List Int)) (fs : List Int) (hl : fs.length ≤ 1000000) (hn : l.fl.length ≤ 1000) : AC Try.prog 144 [.list (ints fs), .fn 111 [] [.ptr 152 0]] [(96, tpC l frs), (152, [.ptr 96 0])] [(96, some (tpC l frs)), (152, some [.ptr 96 0])] (dI (match fs.findIdx? (fun x => !wI x 0 ((l.fl.length : Int) - 1)) with
    | some k => (k : Int)
    | none => -1)) := by
  refine kslices_IndexFunc_L_L_Jint_Kint_J.ac (n0 := 200) (by simp) ⟨.list _, .fn _ _ _ (by simp) (by intro d hd; simp at hd; subst hd; exact .ptr _ _ (by omega)), trivial⟩ ⟨⟨by omega, tpC_in _ _ _⟩, ⟨by omega, by intro d hd; simp at hd; subst hd; exact .ptr _ _ (by omega)⟩, trivial⟩ rfl ?_
  unfold cslices_IndexFunc_L_L_Jint_Kint_J
  (repeat' (first | (with_reducible first | refine thenQ_n ?_ | refine blockQ_n ?_ | refine thenQ_e ?_ | refine blockQ_t ?_ | refine blockQ_f (by decide) ?_) | apply aw_seq | apply aw_skip | apply aw_exit | apply aw_ret | apply aw_block | apply aw_condT rfl | apply aw_condF rfl | ((first | refine aw_hide fun K hK => aw_region ?_ | refine ago_if (by omega) ?_ | skip); simp (disch := first | exact okY | omega) only [List.length, Nat.zero_add, Nat.reduceMul, Nat.reduceAdd, envOf, ARun_none, AOpRun, aexec, FSt.ev, AGo_ok, St.app, putO, eput_c, Nat.reduceBEq, eput_n, cond_false, hups, List.map, ARun_nil, dropE_c, inL_n, dropE_n, St.F, ↓eget_h, eget_c, ints_len, inL_c, beq_self_eq_true, cond_true, Int.reduceNeg, dI]) | subst hK))
  refine aw_loop (fun k : Nat => ⟨[(0, .list (ints fs)), (1, .fn 111 [] [.ptr 152 0]), (7, dI fs.length), (8, dI k)], [(96, tpC l frs), (152, [.ptr 96 0])], 400⟩) (fun k => k ≤ fs.length ∧ ∀ j, j < k → wI (fs[j]?.getD 0) 0 ((l.fl.length : Int) - 1) = true) (fun k => fs.length - k) ⟨0, ⟨by omega, fun j hj => by omega⟩, ?_⟩ ?_
  · refine wk_q [] [(96, 96), (152, 152)] ?_ ?_ <;> repeat' (first | exact trivial | exact vr_val _ | exact vr_list _ | exact vr_ptr _ _ _ rfl | apply vr_fn | refine And.intro ⟨_, rfl, .inl ⟨_, rfl, by decide, ?_⟩⟩ ?_ | apply And.intro)
    all_goals exact tpC_in _ _ _
  rintro k ⟨hk, hin⟩
  by_cases hk2 : k < fs.length
  · have g1 := ints_gd fs k hk2
    cases he : wI (fs[k]?.getD 0) 0 ((l.fl.length : Int) - 1) with
    | false =>
      have q : fs.findIdx? (fun x => !wI x 0 ((l.fl.length : Int) - 1)) = some k := by
        rw [List.findIdx?_eq_some_iff_getElem]
        refine ⟨hk2, by have := he; simp [hk2] at this; simp [this], fun j hj => ?_⟩
        have := hin j hj
        simpa [show j < fs.length by omega] using this
      rw [q]
      (have hg : (987654321 : Nat) - 987654321 = 0 := rfl; have hr := hg; repeat' (first | (with_reducible first | refine thenQ_n ?_ | refine blockQ_n ?_ | refine thenQ_e ?_ | refine blockQ_t ?_ | refine blockQ_f (by decide) ?_) | apply aw_seq | apply aw_skip | apply aw_exit | apply aw_ret | apply aw_block | apply aw_condT rfl | apply aw_condF rfl | (refine aw_cond rfl (fun hg => ?_) (fun hg => ?_) <;> (try (have hq := hg; simp only [Bool.not_eq_true', Bool.not_eq_false', Bool.and_eq_true, Bool.and_eq_false_iff, Bool.or_eq_true, Bool.or_eq_false_iff, decide_eq_true_eq, decide_eq_false_iff_not, bne_iff_ne, beq_iff_eq, beq_eq_false_iff_ne, bne_eq_false_iff_eq, ne_eq, Int.not_lt, Int.not_le, Decidable.not_not] at hq)) <;> (try (have hr := hg; simp only [decide_eq_true_eq, decide_eq_false_iff_not] at hr)) <;> (try (exfalso; omega))) | ((first | refine aw_hide fun K hK => aw_region ?_ | refine acallB (hasF_ac l frs _ hn) (by repeat' (first | exact trivial | exact rfl | refine And.intro ?_ ?_)) (by kernel_rfl) (by kernel_rfl) (by kernel_rfl) ?_ | refine ago_if (by omega) ?_ | skip); simp (disch := first | exact okY | omega) only [List.length, Nat.zero_add, Nat.reduceMul, Nat.reduceAdd, dI, ARun_none, AOpRun, aexec, FSt.ev, St.F, eget_c, Nat.reduceBEq, ↓eget_h, cond_false, isSh, Bool.false_eq_true, ↓reduceIte, Option.map, abin, AGo_ok, St.app, putO, eput_c, eput_n, hups, List.map, ARun_nil, dropE_c, inL_n, dropE_n, hr, decide_true, inL_c, beq_self_eq_true, cond_true, Int.natCast_nonneg, ints_all, and_self, opt1, Int.toNat_natCast, g1, run1, List.getElem?_cons_zero, dB, he, Bool.not_false, hput_c, hput_n, List.append_nil, blockQ, thenQ]) | subst hK))
      all_goals (refine end_q [] [(96, 96), (152, 152)] ?_ ?_ <;> repeat' (first | exact trivial | exact vr_val _ | exact vr_list _ | exact vr_ptr _ _ _ rfl | refine And.intro ⟨_, rfl, _, rfl, by decide, ?_⟩ ?_ | apply And.intro))
      all_goals exact tpC_in _ _ _
    | true =>
      (have hg : (987654321 : Nat) - 987654321 = 0 := rfl; have hr := hg; repeat' (first | (with_reducible first | refine thenQ_n ?_ | refine blockQ_n ?_ | refine thenQ_e ?_ | refine blockQ_t ?_ | refine blockQ_f (by decide) ?_) | apply aw_seq | apply aw_skip | apply aw_exit | apply aw_ret | apply aw_block | apply aw_condT rfl | apply aw_condF rfl | (refine aw_cond rfl (fun hg => ?_) (fun hg => ?_) <;> (try (have hq := hg; simp only [Bool.not_eq_true', Bool.not_eq_false', Bool.and_eq_true, Bool.and_eq_false_iff, Bool.or_eq_true, Bool.or_eq_false_iff, decide_eq_true_eq, decide_eq_false_iff_not, bne_iff_ne, beq_iff_eq, beq_eq_false_iff_ne, bne_eq_false_iff_eq, ne_eq, Int.not_lt, Int.not_le, Decidable.not_not] at hq)) <;> (try (have hr := hg; simp only [decide_eq_true_eq, decide_eq_false_iff_not] at hr)) <;> (try (exfalso; omega))) | ((first | refine aw_hide fun K hK => aw_region ?_ | refine acallB (hasF_ac l frs _ hn) (by repeat' (first | exact trivial | exact rfl | refine And.intro ?_ ?_)) (by kernel_rfl) (by kernel_rfl) (by kernel_rfl) ?_ | refine ago_if (by omega) ?_ | skip); simp (disch := first | exact okY | omega) only [List.length, Nat.zero_add, Nat.reduceMul, Nat.reduceAdd, dI, ARun_none, AOpRun, aexec, FSt.ev, St.F, eget_c, Nat.reduceBEq, ↓eget_h, cond_false, isSh, Bool.false_eq_true, ↓reduceIte, Option.map, abin, AGo_ok, St.app, putO, eput_c, eput_n, hups, List.map, ARun_nil, dropE_c, inL_n, dropE_n, hr, decide_true, inL_c, beq_self_eq_true, cond_true, Int.natCast_nonneg, ints_all, and_self, opt1, Int.toNat_natCast, g1, run1, List.getElem?_cons_zero, dB, he, Bool.not_true, hput_c, hput_n, List.append_nil, fits]) | subst hK))
      refine ⟨k + 1, ⟨by omega, fun j hj => ?_⟩, by omega, ?_⟩
      · rcases (by omega : j < k ∨ j = k) with h | rfl
        · exact hin j h
        · exact he
      · refine wk_q [] [(96, 96), (152, 152)] ?_ ?_ <;> repeat' (first | exact trivial | exact vr_val _ | exact vr_list _ | exact vr_ptr _ _ _ rfl | apply vr_fn | refine And.intro ⟨_, rfl, .inl ⟨_, rfl, by decide, ?_⟩⟩ ?_ | apply And.intro)
        all_goals exact tpC_in _ _ _
  · obtain rfl : k = fs.length := by omega
    have q : fs.findIdx? (fun x => !wI x 0 ((l.fl.length : Int) - 1)) = none := by
      rw [List.findIdx?_eq_none_iff]
      intro y hy
      obtain ⟨j, hj, rfl⟩ := List.getElem_of_mem hy
      have := hin j hj
      simp [hj] at this
      simp [this]
    rw [q]
    (have hg : (987654321 : Nat) - 987654321 = 0 := rfl; have hr := hg; repeat' (first | (with_reducible first | refine thenQ_n ?_ | refine blockQ_n ?_ | refine thenQ_e ?_ | refine blockQ_t ?_ | refine blockQ_f (by decide) ?_) | apply aw_seq | apply aw_skip | apply aw_exit | apply aw_ret | apply aw_block | apply aw_condT rfl | apply aw_condF rfl | (refine aw_cond rfl (fun hg => ?_) (fun hg => ?_) <;> (try (have hq := hg; simp only [Bool.not_eq_true', Bool.not_eq_false', Bool.and_eq_true, Bool.and_eq_false_iff, Bool.or_eq_true, Bool.or_eq_false_iff, decide_eq_true_eq, decide_eq_false_iff_not, bne_iff_ne, beq_iff_eq, beq_eq_false_iff_ne, bne_eq_false_iff_eq, ne_eq, Int.not_lt, Int.not_le, Decidable.not_not] at hq)) <;> (try (have hr := hg; simp only [decide_eq_true_eq, decide_eq_false_iff_not] at hr)) <;> (try (exfalso; omega))) | ((first | refine aw_hide fun K hK => aw_region ?_ | refine ago_if (by omega) ?_ | skip); simp (disch := first | exact okY | omega) only [List.length, Nat.zero_add, Nat.reduceMul, Nat.reduceAdd, dI, ARun_none, AOpRun, aexec, FSt.ev, St.F, eget_c, Nat.reduceBEq, ↓eget_h, cond_false, isSh, Bool.false_eq_true, ↓reduceIte, Option.map, abin, AGo_ok, St.app, putO, eput_c, eput_n, hups, List.map, ARun_nil, dropE_c, inL_n, dropE_n, Int.reduceNeg, hr, decide_false]) | subst hK))
    all_goals (refine end_q [] [(96, 96), (152, 152)] ?_ ?_ <;> repeat' (first | exact trivial | exact vr_val _ | exact vr_list _ | exact vr_ptr _ _ _ rfl | refine And.intro ⟨_, rfl, _, rfl, by decide, ?_⟩ ?_ | apply And.intro))
    all_goals exact tpC_in _ _ _
set_option maxRecDepth 100000 in
set_option maxHeartbeats 2000000 in
theorem chas_ac (l : Lay) (frs : List (List Int)) (fs : List Int) (hl : fs.length ≤ 1000000) (hn : l.fl.length ≤ 1000) : AC Try.prog 110 [.list (ints fs), .fn 111 [] [.ptr 152 0]] [(96, tpC l frs), (152, [.ptr 96 0])] [(96, some (tpC l frs)), (152, some [.ptr 96 0])] (dB (!hasA l fs)) := by
  refine kslices_ContainsFunc_L_L_Jint_Kint_J.ac (n0 := 200) (by simp) ⟨.list _, .fn _ _ _ (by simp) (by intro d hd; simp at hd; subst hd; exact .ptr _ _ (by omega)), trivial⟩ ⟨⟨by omega, tpC_in _ _ _⟩, ⟨by omega, by intro d hd; simp at hd; subst hd; exact .ptr _ _ (by omega)⟩, trivial⟩ rfl ?_
  unfold cslices_ContainsFunc_L_L_Jint_Kint_J
  have hf := ihas_ac l frs fs hl hn
  cases h : fs.findIdx? (fun x => !wI x 0 ((l.fl.length : Int) - 1)) with
  | none =>
    have ha : hasA l fs = true := by
      rw [List.findIdx?_eq_none_iff] at h
      refine List.all_eq_true.2 fun x hx => ?_
      have := h x hx
      simpa using this
    rw [h] at hf
    rw [ha]
    (repeat' (first | (with_reducible first | refine thenQ_n ?_ | refine blockQ_n ?_ | refine thenQ_e ?_ | refine blockQ_t ?_ | refine blockQ_f (by decide) ?_) | apply aw_seq | apply aw_skip | apply aw_exit | apply aw_ret | apply aw_block | apply aw_condT rfl | apply aw_condF rfl | ((first | refine aw_hide fun K hK => aw_region ?_ | refine acallB (hf) (by repeat' (first | exact trivial | exact rfl | refine And.intro ?_ ?_)) (by kernel_rfl) (by kernel_rfl) (by kernel_rfl) ?_ | refine ago_if (by omega) ?_ | skip); simp (disch := first | exact okY | omega) only [List.length, Nat.zero_add, Nat.reduceMul, Nat.reduceAdd, envOf, ARun_none, AOpRun, aexec, FSt.ev, AGo_ok, St.app, putO, eput_c, Nat.reduceBEq, eput_n, cond_false, hups, List.map, ARun_nil, dropE_c, inL_n, dropE_n, St.F, ↓eget_h, eget_c, dI, Int.reduceNeg, hput_c, beq_self_eq_true, hput_n, cond_true, List.append_nil, isSh, Bool.false_eq_true, ↓reduceIte, Option.map, abin, inL_c, dB, Bool.not_true]) | subst hK))
    all_goals (refine end_q [] [(96, 96), (152, 152)] ?_ ?_ <;> repeat' (first | exact trivial | exact vr_val _ | exact vr_list _ | exact vr_ptr _ _ _ rfl | refine And.intro ⟨_, rfl, _, rfl, by decide, ?_⟩ ?_ | apply And.intro))
    all_goals exact tpC_in _ _ _
  | some k =>
    have ha : hasA l fs = false := by
      rw [List.findIdx?_eq_some_iff_getElem] at h
      obtain ⟨hk, he, _⟩ := h
      refine List.all_eq_false.2 ⟨fs[k], List.getElem_mem hk, by simpa using he⟩
    rw [h] at hf
    rw [ha]
    have q : decide ((k : Int) ≥ 0) = true := decide_eq_true (by omega)
    (repeat' (first | (with_reducible first | refine thenQ_n ?_ | refine blockQ_n ?_ | refine thenQ_e ?_ | refine blockQ_t ?_ | refine blockQ_f (by decide) ?_) | apply aw_seq | apply aw_skip | apply aw_exit | apply aw_ret | apply aw_block | apply aw_condT rfl | apply aw_condF rfl | ((first | refine aw_hide fun K hK => aw_region ?_ | refine acallB (hf) (by repeat' (first | exact trivial | exact rfl | refine And.intro ?_ ?_)) (by kernel_rfl) (by kernel_rfl) (by kernel_rfl) ?_ | refine ago_if (by omega) ?_ | skip); simp (disch := first | exact okY | omega) only [List.length, Nat.zero_add, Nat.reduceMul, Nat.reduceAdd, envOf, ARun_none, AOpRun, aexec, FSt.ev, AGo_ok, St.app, putO, eput_c, Nat.reduceBEq, eput_n, cond_false, hups, List.map, ARun_nil, dropE_c, inL_n, dropE_n, St.F, ↓eget_h, eget_c, dI, hput_c, beq_self_eq_true, hput_n, cond_true, List.append_nil, isSh, Bool.false_eq_true, ↓reduceIte, Option.map, abin, Int.natCast_nonneg, decide_true, inL_c, dB, Bool.not_false]) | subst hK))
    all_goals (refine end_q [] [(96, 96), (152, 152)] ?_ ?_ <;> repeat' (first | exact trivial | exact vr_val _ | exact vr_list _ | exact vr_ptr _ _ _ rfl | refine And.intro ⟨_, rfl, _, rfl, by decide, ?_⟩ ?_ | apply And.intro))
    all_goals exact tpC_in _ _ _
noncomputable def wfE (l : Lay) (frs : List (List Int)) (fs : List Int) : Int := if tpE l frs = 0 then (if hasA l fs = true then 0 else 1) else tpE l frs
set_option maxRecDepth 100000 in
set_option maxHeartbeats 4000000 in
theorem withField_ok (l : Lay) (frs : List (List Int)) (fs : List Int) (hl : LayIn l) (h1 : LayOk l) (h2 : frs.length ≤ 200) (hf : FrIn frs) (hfs : fs.length ≤ 1000) (hh : hasA l fs = true) : AC Try.prog 66 [layD l, .list (rows frs), .list (ints fs)] [] [(96, some (tpC l frs))] (.tup [.ptr 96 0, dI 0]) := by
  refine krecord_withField.ac (n0 := 0) (by simp) ⟨in_layD _ _, .list _, .list _, trivial⟩ trivial rfl ?_
  unfold crecord_withField layD layC
  have nt := newTape_ok l frs hl h1 h2 hf
  have ch := chas_ac l frs fs (by omega) (by have := h1.nf; omega)
  rw [hh] at ch
  refine aw_seq (aw_region ?_)
  simp (disch := first | exact okY | omega) only [thenQ, List.map, dI, List.length, Nat.zero_add, Nat.reduceAdd, Nat.reduceMul, envOf, ARun_none, AOpRun, aexec, D.isBot, FSt.ev, St.F, ↓eget_h, Bool.false_eq_true, Option.isSome, hget_n, or_self, ↓reduceIte, D.cells, AGo_ok, St.app, putO, eput_c, Nat.reduceBEq, eput_n, cond_false, hups, hput_n, ARun_nil, dropE_c, inL_n, dropE_n]
  refine aw_wk (s' := ⟨[(1, .list (rows frs)), (2, .list (ints fs)), (3, .ptr 0 0)], [(0, [dI l.words, dI l.s0, dI l.s1, dI l.s2, dI l.s3, .list (fls l.fl)])], 80⟩) ?_ ?_
  · unfold dI
    refine wk_q [] [(0, 0)] ?_ ?_ <;> repeat' (first | exact trivial | exact vr_val _ | exact vr_list _ | exact vr_ptr _ _ _ rfl | refine And.intro ⟨_, rfl, .inl ⟨_, rfl, by decide, ?_⟩⟩ ?_ | apply And.intro)
  refine aw_seq (aw_region ?_)
  simp (disch := first | exact okY | omega) only [thenQ, List.length, Nat.zero_add, Nat.reduceAdd, Nat.reduceMul, dI, ARun_none, AOpRun, aexec, FSt.ev, St.F, eget_c, Nat.reduceBEq, ↓eget_h, cond_false, hget_c, beq_self_eq_true, hget_n, cond_true, Nat.reduceLeDiff, ↓reduceIte, List.drop, List.take, AGo_ok, St.app, putO, eput_c, eput_n, hups, List.map]
  refine acallB nt (by repeat' (first | exact trivial | exact rfl | refine And.intro ?_ ?_)) (by kernel_rfl) (by kernel_rfl) (by kernel_rfl) ?_
  simp (disch := first | exact okY | omega) only [Nat.reduceAdd, St.app, putO, dI, eput_c, Nat.reduceBEq, eput_n, cond_false, hups, hput_c, hput_n, List.map, List.append_nil, ARun_none, AOpRun, aexec, FSt.ev, St.F, eget_c, ↓eget_h, AGo_ok, opt1, Option.map, List.getElem?_cons_zero, List.getElem?_cons_succ, Option.isSome, Nat.reduceMul, hget_c, hget_n, Bool.false_eq_true, ↓reduceIte, ↓hget_h, D.isBot, D.cells, List.length, Nat.zero_add, Nat.reduceLeDiff, List.all, D.leaf, Bool.and_true, and_self, splice, List.take, List.nil_append, List.drop, beq_self_eq_true, cond_true, ARun_nil, dropE_c, inL_c, inL_n, dropE_n]
  (iterate 7 (try (first | apply aw_seq | ((first | apply aw_skip | apply aw_exit); with_reducible repeat' (first | refine thenQ_n ?_ | refine blockQ_n ?_ | refine thenQ_e ?_ | refine blockQ_t ?_ | refine blockQ_f (by decide) ?_)) | apply aw_ret | apply aw_block | apply aw_condT rfl | apply aw_condF rfl | ((first | refine aw_hide fun K hK => aw_region ?_ | refine ago_if (by omega) ?_ | skip); simp (disch := first | exact okY | omega) only [List.length, Nat.zero_add, Nat.reduceAdd, Nat.reduceMul, ARun_none, AOpRun, aexec, FSt.ev, St.F, eget_c, Nat.reduceBEq, ↓eget_h, cond_false, AGo_ok, St.app, putO, eput_c, eput_n, hups, List.map, isSh, Bool.false_eq_true, ↓reduceIte, Option.map, abin, bne_self_eq_false, ARun_nil, dropE_c, inL_c, inL_n, beq_self_eq_true, cond_true, dropE_n]) | (subst hK; with_reducible repeat' (first | refine thenQ_n ?_ | refine blockQ_n ?_ | refine thenQ_e ?_ | refine blockQ_t ?_ | refine blockQ_f (by decide) ?_)))))
  refine aw_wk (s' := ⟨[(2, .list (ints fs)), (8, .ptr 152 0)], [(96, tpC l frs), (152, [.ptr 96 0])], 200⟩) ?_ ?_
  · refine wk_q [] [(96, 96), (152, 128)] ?_ ?_ <;> repeat' (first | exact trivial | exact vr_val _ | exact vr_list _ | exact vr_ptr _ _ _ rfl | refine And.intro ⟨_, rfl, .inl ⟨_, rfl, by decide, ?_⟩⟩ ?_ | apply And.intro)
    all_goals exact tpC_in _ _ _
  (repeat' (first | (with_reducible first | refine thenQ_n ?_ | refine blockQ_n ?_ | refine thenQ_e ?_ | refine blockQ_t ?_ | refine blockQ_f (by decide) ?_) | apply aw_seq | apply aw_skip | apply aw_exit | apply aw_ret | apply aw_block | apply aw_condT rfl | apply aw_condF rfl | ((first | refine aw_hide fun K hK => aw_region ?_ | refine acallB (ch) (by repeat' (first | exact trivial | exact rfl | refine And.intro ?_ ?_)) (by kernel_rfl) (by kernel_rfl) (by kernel_rfl) ?_ | refine ago_if (by omega) ?_ | skip); simp (disch := first | exact okY | omega) only [List.length, Nat.zero_add, Nat.reduceAdd, Nat.reduceMul, ARun_none, AOpRun, aexec, FSt.ev, St.F, ↓eget_h, AGo_ok, St.app, putO, eput_c, Nat.reduceBEq, eput_n, cond_false, hups, List.map, eget_c, dB, Bool.not_true, hput_c, beq_self_eq_true, hput_n, cond_true, List.append_nil, ARun_nil, dropE_c, inL_c, inL_n, dropE_n, Option.map, run1, hget_c, ↓hget_h, List.getElem?_cons_zero]) | subst hK))
  refine end_q [] [(96, 96)] ?_ ?_ <;> repeat' (first | exact trivial | exact vr_val _ | exact vr_list _ | exact vr_ptr _ _ _ rfl | apply vr_tup | refine And.intro ⟨_, rfl, _, rfl, by decide, ?_⟩ ?_ | apply And.intro)
  all_goals exact tpC_in _ _ _
set_option maxRecDepth 100000 in
set_option maxHeartbeats 4000000 in
theorem withField_err (l : Lay) (frs : List (List Int)) (fs : List Int) (hl : LayIn l) (hf : FrIn frs) (hfs : fs.length ≤ 1000) (he : wfE l frs fs ≠ 0) : AC Try.prog 66 [layD l, .list (rows frs), .list (ints fs)] [] [] (.tup [.val (.pointer none), dI (wfE l frs fs)]) := by
  refine krecord_withField.ac (n0 := 0) (by simp) ⟨in_layD _ _, .list _, .list _, trivial⟩ trivial rfl ?_
  unfold crecord_withField layD layC
  rcases tpE_cases l frs with ⟨h0, h1, h2⟩ | ⟨h0, h1⟩
  · have hh : hasA l fs = false := by
      cases h : hasA l fs with
      | false => rfl
      | true => exact absurd (by unfold wfE; rw [if_pos h0, if_pos h]) he
    have e : wfE l frs fs = 1 := by unfold wfE; rw [if_pos h0, hh]; rfl
    rw [e]
    have nt := newTape_ok l frs hl h1 h2 hf
    have ch := chas_ac l frs fs (by omega) (by have := h1.nf; omega)
    rw [hh] at ch
    refine aw_seq (aw_region ?_)
    simp (disch := first | exact okY | omega) only [thenQ, List.map, dI, List.length, Nat.zero_add, Nat.reduceAdd, Nat.reduceMul, envOf, ARun_none, AOpRun, aexec, D.isBot, FSt.ev, St.F, ↓eget_h, Bool.false_eq_true, Option.isSome, hget_n, or_self, ↓reduceIte, D.cells, AGo_ok, St.app, putO, eput_c, Nat.reduceBEq, eput_n, cond_false, hups, hput_n, ARun_nil, dropE_c, inL_n, dropE_n]
    refine aw_wk (s' := ⟨[(1, .list (rows frs)), (2, .list (ints fs)), (3, .ptr 0 0)], [(0, [dI l.words, dI l.s0, dI l.s1, dI l.s2, dI l.s3, .list (fls l.fl)])], 80⟩) ?_ ?_
    · unfold dI
      refine wk_q [] [(0, 0)] ?_ ?_ <;> repeat' (first | exact trivial | exact vr_val _ | exact vr_list _ | exact vr_ptr _ _ _ rfl | refine And.intro ⟨_, rfl, .inl ⟨_, rfl, by decide, ?_⟩⟩ ?_ | apply And.intro)
    refine aw_seq (aw_region ?_)
    simp (disch := first | exact okY | omega) only [thenQ, List.length, Nat.zero_add, Nat.reduceAdd, Nat.reduceMul, dI, ARun_none, AOpRun, aexec, FSt.ev, St.F, eget_c, Nat.reduceBEq, ↓eget_h, cond_false, hget_c, beq_self_eq_true, hget_n, cond_true, Nat.reduceLeDiff, ↓reduceIte, List.drop, List.take, AGo_ok, St.app, putO, eput_c, eput_n, hups, List.map]
    refine acallB nt (by repeat' (first | exact trivial | exact rfl | refine And.intro ?_ ?_)) (by kernel_rfl) (by kernel_rfl) (by kernel_rfl) ?_
    simp (disch := first | exact okY | omega) only [Nat.reduceAdd, St.app, putO, dI, eput_c, Nat.reduceBEq, eput_n, cond_false, hups, hput_c, hput_n, List.map, List.append_nil, ARun_none, AOpRun, aexec, FSt.ev, St.F, eget_c, ↓eget_h, AGo_ok, opt1, Option.map, List.getElem?_cons_zero, List.getElem?_cons_succ, Option.isSome, Nat.reduceMul, hget_c, hget_n, Bool.false_eq_true, ↓reduceIte, ↓hget_h, D.isBot, D.cells, List.length, Nat.zero_add, Nat.reduceLeDiff, List.all, D.leaf, Bool.and_true, and_self, splice, List.take, List.nil_append, List.drop, beq_self_eq_true, cond_true, ARun_nil, dropE_c, inL_c, inL_n, dropE_n]
    (iterate 7 (try (first | apply aw_seq | ((first | apply aw_skip | apply aw_exit); with_reducible repeat' (first | refine thenQ_n ?_ | refine blockQ_n ?_ | refine thenQ_e ?_ | refine blockQ_t ?_ | refine blockQ_f (by decide) ?_)) | apply aw_ret | apply aw_block | apply aw_condT rfl | apply aw_condF rfl | ((first | refine aw_hide fun K hK => aw_region ?_ | refine ago_if (by omega) ?_ | skip); simp (disch := first | exact okY | omega) only [List.length, Nat.zero_add, Nat.reduceAdd, Nat.reduceMul, ARun_none, AOpRun, aexec, FSt.ev, St.F, eget_c, Nat.reduceBEq, ↓eget_h, cond_false, AGo_ok, St.app, putO, eput_c, eput_n, hups, List.map, isSh, Bool.false_eq_true, ↓reduceIte, Option.map, abin, bne_self_eq_false, ARun_nil, dropE_c, inL_c, inL_n, beq_self_eq_true, cond_true, dropE_n]) | (subst hK; with_reducible repeat' (first | refine thenQ_n ?_ | refine blockQ_n ?_ | refine thenQ_e ?_ | refine blockQ_t ?_ | refine blockQ_f (by decide) ?_)))))
    refine aw_wk (s' := ⟨[(2, .list (ints fs)), (8, .ptr 152 0)], [(96, tpC l frs), (152, [.ptr 96 0])], 200⟩) ?_ ?_
    · refine wk_q [] [(96, 96), (152, 128)] ?_ ?_ <;> repeat' (first | exact trivial | exact vr_val _ | exact vr_list _ | exact vr_ptr _ _ _ rfl | refine And.intro ⟨_, rfl, .inl ⟨_, rfl, by decide, ?_⟩⟩ ?_ | apply And.intro)
      all_goals exact tpC_in _ _ _
    (repeat' (first | (with_reducible first | refine thenQ_n ?_ | refine blockQ_n ?_ | refine thenQ_e ?_ | refine blockQ_t ?_ | refine blockQ_f (by decide) ?_) | apply aw_seq | apply aw_skip | apply aw_exit | apply aw_ret | apply aw_block | apply aw_condT rfl | apply aw_condF rfl | ((first | refine aw_hide fun K hK => aw_region ?_ | refine acallB (ch) (by repeat' (first | exact trivial | exact rfl | refine And.intro ?_ ?_)) (by kernel_rfl) (by kernel_rfl) (by kernel_rfl) ?_ | refine ago_if (by omega) ?_ | skip); simp (disch := first | exact okY | omega) only [List.length, Nat.zero_add, Nat.reduceAdd, Nat.reduceMul, ARun_none, AOpRun, aexec, FSt.ev, St.F, ↓eget_h, AGo_ok, St.app, putO, eput_c, Nat.reduceBEq, eput_n, cond_false, hups, List.map, eget_c, dB, Bool.not_false, hput_c, beq_self_eq_true, hput_n, cond_true, List.append_nil, ARun_nil, dropE_c, inL_c, inL_n, dropE_n, thenQ]) | subst hK))
    (refine end_q [] [] ?_ ?_ <;> repeat' (first | exact trivial | exact vr_val _ | apply vr_tup | apply And.intro))
  · have e : wfE l frs fs = tpE l frs := if_neg h0
    rw [e]
    have nt := newTape_err l frs hl (fun h => h0 (tpE_ok h.1 h.2)) hf
    generalize tpE l frs = E at *
    (repeat' (first | (with_reducible first | refine thenQ_n ?_ | refine blockQ_n ?_ | refine thenQ_e ?_ | refine blockQ_t ?_ | refine blockQ_f (by decide) ?_) | apply aw_seq | apply aw_skip | apply aw_exit | apply aw_ret | apply aw_block | apply aw_condT rfl | apply aw_condF rfl | ((first | refine aw_hide fun K hK => aw_region ?_ | refine acall0 (nt) ?_ | refine ago_if (by omega) ?_ | skip); simp (disch := first | exact okY | omega) only [List.length, Nat.zero_add, Nat.reduceAdd, Nat.reduceMul, envOf, dI, ARun_none, AOpRun, aexec, D.isBot, FSt.ev, St.F, ↓eget_h, Bool.false_eq_true, Option.isSome, hget_n, or_self, ↓reduceIte, D.cells, AGo_ok, St.app, putO, eput_c, Nat.reduceBEq, eput_n, cond_false, hups, hput_n, List.map, ARun_nil, dropE_c, inL_n, dropE_n, eget_c, hget_c, beq_self_eq_true, cond_true, Nat.reduceLeDiff, List.drop, List.take, opt1, Option.map, List.getElem?_cons_zero, List.getElem?_cons_succ, hput_c, ↓hget_h, List.all, D.leaf, Bool.and_true, and_self, splice, List.nil_append, List.append_nil, inL_c, isSh, abin, h1, thenQ]) | subst hK))
    (refine end_q [] [] ?_ ?_ <;> repeat' (first | exact trivial | exact vr_val _ | apply vr_tup | apply And.intro))
end Go.Proofs.Ytdcodicoclecnaa
/- The functions' bodies, translated. Written by a program; no conditions. -/
namespace Go.Proofs.Ytdcodicoclecnaa
open Go.RowKit Lift

def cprecord_tape_valid : ACode :=
 (.seq
 (.region false [⟨some 2, .box (.tmp 0), none, []⟩,
 ⟨some 3, .box (.tmp 1), none, []⟩,
 ⟨some 4, .mv (.const (.bool false)), none, []⟩] [])
 (.seq
 (.region false [⟨some 6, .mkfn 124 [] [(.tmp 2)], none, []⟩,
 ⟨some 5, .mv (.tmp 6), none, []⟩] [6])
 (.seq
 (.region false [⟨some 7, .fad 0 (.tmp 3), none, []⟩,
 ⟨some 8, .load1 (.tmp 7), none, []⟩,
 ⟨some 9, .len_ (.tmp 8), none, []⟩,
 ⟨some 10, .call (.func 74) [(.tmp 9), (.const (.int .i64 1)), (.const (.int .i64 4))], none, []⟩,
 ⟨some 11, .mv (.tmp 10), none, []⟩,
 ⟨some 12, .fad 0 (.tmp 3), (some (some 11, true)), []⟩,
 ⟨some 13, .load1 (.tmp 12), (some (some 11, true)), []⟩,
 ⟨some 14, .mv (.tmp 5), (some (some 11, true)), []⟩,
 ⟨some 15, .call (.func 125) [(.tmp 13), (.tmp 14)], (some (some 11, true)), []⟩,
 ⟨some 16, .un .not (.tmp 15), (some (some 11, true)), []⟩,
 ⟨some 17, .pick (.tmp 11) (.tmp 16) (.const (.bool false)), none, []⟩,
 ⟨some 18, .mv (.tmp 17), none, []⟩,
 ⟨some 19, .fad 1 (.tmp 3), (some (some 18, true)), []⟩,
 ⟨some 20, .load1 (.tmp 19), (some (some 18, true)), []⟩,
 ⟨some 21, .call (.func 74) [(.tmp 20), (.const (.int .i64 1)), (.const (.int .i64 100))], (some (some 18, true)), []⟩,
 ⟨some 22, .pick (.tmp 18) (.tmp 21) (.const (.bool false)), none, []⟩,
 ⟨some 4, .mv (.tmp 22), none, []⟩] [7, 8, 9, 10, 11, 12, 13, 14, 15, 16, 17, 18, 19, 20, 21, 22])
 .ret)))
set_option maxRecDepth 100000 in
theorem kprecord_tape_valid : IsCode Try.prog 93 23 cprecord_tape_valid [.tmp 4] :=
 ⟨Try.f93, _, [0, 1, 2, 3, 5, 4], Try.func93, rfl, by decide, rfl, by kernel_rfl, by kernel_rfl⟩
def cprecord_tape_holds_B30 : ACode :=
 (.block 1
 (.seq
 (.region false [⟨some 32, .mv (.tmp 8), none, []⟩,
 ⟨some 33, .fad 1 (.tmp 3), none, []⟩,
 ⟨some 34, .load1 (.tmp 33), none, []⟩,
 ⟨some 35, .fad 5 (.tmp 5), none, []⟩,
 ⟨some 36, .load1 (.tmp 35), none, []⟩,
 ⟨some 37, .bin .mul (.tmp 34) (.tmp 36), none, []⟩,
 ⟨some 38, .bin .leq (.tmp 32) (.tmp 37), none, []⟩,
 ⟨some 9, .mv (.tmp 38), none, []⟩] [32, 33, 34, 35, 36, 37, 38])
 (.seq
 (.seq
 (.region false [⟨some 39, .fad 2 (.tmp 3), none, []⟩,
 ⟨some 40, .load1 (.tmp 39), none, []⟩] [39])
 (.cond (.tmp 40)
 (.region false [⟨some 41, .mv (.tmp 8), none, []⟩,
 ⟨some 42, .fad 1 (.tmp 3), none, []⟩,
 ⟨some 43, .load1 (.tmp 42), none, []⟩,
 ⟨some 44, .fad 5 (.tmp 5), none, []⟩,
 ⟨some 45, .load1 (.tmp 44), none, []⟩,
 ⟨some 46, .bin .mul (.tmp 43) (.tmp 45), none, []⟩,
 ⟨some 47, .bin .geq (.tmp 41) (.tmp 46), none, []⟩,
 ⟨some 9, .mv (.tmp 47), none, []⟩] [41, 42, 43, 44, 45, 46, 47])
 .skip))
 (.seq
 (.region false [⟨some 48, .mv (.tmp 7), none, []⟩,
 ⟨some 10, .mv (.tmp 48), none, []⟩] [48])
 (.block 2
 (.loop
 (.seq
 (.seq
 (.region false [⟨some 49, .mv (.tmp 10), none, []⟩,
 ⟨some 50, .mv (.tmp 7), none, []⟩,
 ⟨some 51, .fad 7 (.tmp 5), none, []⟩,
 ⟨some 52, .load1 (.tmp 51), none, []⟩,
 ⟨some 53, .bin .add (.tmp 50) (.tmp 52), none, []⟩,
 ⟨some 54, .load1 (.tmp 6), none, []⟩,
 ⟨some 55, .len_ (.tmp 54), none, []⟩,
 ⟨some 56, .mnx false [(.tmp 53), (.tmp 55)], none, []⟩,
 ⟨some 57, .bin .lss (.tmp 49) (.tmp 56), none, []⟩] [49, 50, 51, 52, 53, 54, 55, 56])
 (.cond (.tmp 57)
 .skip
 (.exit 2)))
 (.seq
 (.block 3
 (.region false [⟨some 60, .load1 (.tmp 6), none, []⟩,
 ⟨some 61, .mv (.tmp 10), none, []⟩,
 ⟨some 62, .mv (.tmp 9), none, []⟩,
 ⟨some 63, .iadS 1 (.tmp 60) (.tmp 61), none, []⟩,
 ⟨none, .store 1 (.tmp 63) (.tmp 62), none, []⟩] [60, 61, 62, 63]))
 (.region false [⟨some 58, .mv (.tmp 10), none, []⟩,
 ⟨some 59, .bin .add (.tmp 58) (.const (.int .i64 1)), none, []⟩,
 ⟨some 10, .mv (.tmp 59), none, []⟩] [58, 59])))))))))
def cprecord_tape_holds : ACode :=
 (.seq
 (.region false [⟨some 3, .box (.tmp 1), none, []⟩,
 ⟨some 4, .mv (.const (.slice none 0 0)), none, []⟩] [])
 (.seq
 (.region true [⟨some 11, .mv (.tmp 0), none, []⟩,
 ⟨some 12, .nilc (.tmp 11), none, [0]⟩,
 ⟨some 13, .fad 0 (.tmp 12), none, [1, 0]⟩,
 ⟨some 14, .fad 5 (.tmp 13), none, [2, 1, 0]⟩,
 ⟨some 15, .load1 (.tmp 14), none, [3, 2, 1, 0]⟩,
 ⟨some 16, .fad 0 (.tmp 3), none, []⟩,
 ⟨some 17, .load1 (.tmp 16), none, [5]⟩,
 ⟨some 18, .iadS 9 (.tmp 15) (.tmp 17), none, [4, 3, 2, 1, 0, 6, 5]⟩,
 ⟨some 19, .loadN 9 (.tmp 18), none, [7, 4, 3, 2, 1, 0, 6, 5]⟩,
 ⟨some 5, .mem [(.val (.int .i64 0)), (.val (.int .i64 0)), (.val (.int .i64 0)), (.val (.bool false)), (.val (.int .i64 0)), (.val (.int .i64 0)), (.val (.int .i64 0)), (.val (.int .i64 0)), (.val (.int .i64 0))], none, []⟩,
 ⟨none, .store 9 (.tmp 5) (.tmp 19), none, [9, 8, 7, 4, 3, 2, 1, 0, 6, 5]⟩] [11, 12, 13, 14, 15, 16, 17, 18, 19])
 (.seq
 (.region false [⟨some 20, .mv (.tmp 0), none, []⟩,
 ⟨some 21, .nilc (.tmp 20), none, []⟩,
 ⟨some 22, .fad 6 (.tmp 21), none, []⟩,
 ⟨some 23, .load1 (.tmp 22), none, []⟩,
 ⟨some 24, .len_ (.tmp 23), none, []⟩,
 ⟨some 25, .mksl 1 1 [(.val (.bool false))] (.tmp 24) (.tmp 24), none, []⟩,
 ⟨some 6, .mem [(.val (.slice none 0 0))], none, []⟩,
 ⟨none, .store 1 (.tmp 6) (.tmp 25), none, []⟩] [20, 21, 22, 23, 24, 25])
 (.seq
 (.seq
 (.region false [⟨some 26, .mv (.tmp 0), none, []⟩,
 ⟨some 27, .fad 0 (.tmp 3), none, []⟩,
 ⟨some 28, .load1 (.tmp 27), none, []⟩,
 ⟨some 29, .call (.func 67) [(.tmp 26), (.tmp 28)], none, []⟩] [26, 27, 28])
 (.block 0
 (.rangeFunc (.tmp 29) [30, 31] [(7, 30), (8, 31)] cprecord_tape_holds_B30)))
 (.seq
 (.region false [⟨some 64, .load1 (.tmp 6), none, []⟩,
 ⟨some 4, .mv (.tmp 64), none, []⟩] [64])
 .ret)))))
set_option maxRecDepth 100000 in
theorem kprecord_tape_holds : IsCode Try.prog 126 65 cprecord_tape_holds [.tmp 4] :=
 ⟨Try.f126, _, [57, 40, 30, 31, 29, 1, 0, 3, 8, 5, 7, 10, 6, 9, 4], Try.func126, rfl, by decide, rfl, by kernel_rfl, by kernel_rfl⟩
def cprecord_tape_events : ACode :=
 (.seq
 (.region false [⟨some 3, .box (.tmp 1), none, []⟩,
 ⟨some 4, .mv (.const (.slice none 0 0)), none, []⟩] [])
 (.seq
 (.region false [⟨some 14, .mv (.tmp 0), none, []⟩,
 ⟨some 15, .nilc (.tmp 14), none, []⟩,
 ⟨some 16, .fad 6 (.tmp 15), none, []⟩,
 ⟨some 17, .load1 (.tmp 16), none, []⟩,
 ⟨some 18, .len_ (.tmp 17), none, []⟩,
 ⟨some 19, .bin .add (.tmp 18) (.const (.int .i64 1)), none, []⟩,
 ⟨some 20, .mksl 1 1 [(.val (.bool false))] (.tmp 19) (.tmp 19), none, []⟩,
 ⟨some 5, .mv (.tmp 20), none, []⟩] [14, 15, 16, 17, 18, 19, 20])
 (.seq
 (.seq
 (.region false [⟨some 21, .mv (.tmp 0), none, []⟩,
 ⟨some 22, .nilc (.tmp 21), none, []⟩,
 ⟨some 23, .fad 6 (.tmp 22), none, []⟩,
 ⟨some 24, .load1 (.tmp 23), none, []⟩,
 ⟨some 25, .len_ (.tmp 24), none, []⟩,
 ⟨some 26, .mv (.const (.int .i64 0)), none, []⟩] [21, 22, 23, 24])
 (.block 0
 (.loop
 (.seq
 (.region false [⟨some 27, .bin .lss (.tmp 26) (.tmp 25), none, []⟩] [])
 (.seq
 (.cond (.tmp 27)
 .skip
 (.exit 0))
 (.seq
 (.block 1
 (.seq
 (.region false [⟨some 28, .mv (.tmp 26), none, []⟩,
 ⟨some 6, .mv (.tmp 28), none, []⟩] [28])
 (.region false [⟨some 29, .mv (.tmp 5), none, []⟩,
 ⟨some 30, .mv (.tmp 6), none, []⟩,
 ⟨some 31, .iadS 1 (.tmp 29) (.tmp 30), none, []⟩,
 ⟨none, .store 1 (.tmp 31) (.const (.bool true)), none, []⟩] [29, 30, 31])))
 (.region false [⟨some 32, .bin .add (.tmp 26) (.const (.int .i64 1)), none, []⟩,
 ⟨some 26, .mv (.tmp 32), none, []⟩] [32])))))))
 (.seq
 (.seq
 (.region false [⟨some 33, .fad 0 (.tmp 3), none, []⟩,
 ⟨some 34, .load1 (.tmp 33), none, []⟩,
 ⟨some 35, .len_ (.tmp 34), none, []⟩,
 ⟨some 36, .mv (.const (.int .i64 0)), none, []⟩] [33])
 (.block 2
 (.loop
 (.seq
 (.region false [⟨some 37, .bin .lss (.tmp 36) (.tmp 35), none, []⟩] [])
 (.seq
 (.cond (.tmp 37)
 .skip
 (.exit 2))
 (.seq
 (.block 3
 (.seq
 (.region false [⟨some 38, .iadS 3 (.tmp 34) (.tmp 36), none, []⟩,
 ⟨some 39, .loadN 3 (.tmp 38), none, []⟩,
 ⟨some 8, .mem [(.val (.int .i64 0)), (.val (.int .i64 0)), (.val (.bool false))], none, []⟩,
 ⟨none, .store 3 (.tmp 8) (.tmp 39), none, []⟩] [38, 39])
 (.seq
 (.region false [⟨some 40, .mv (.tmp 0), none, []⟩,
 ⟨some 41, .loadN 3 (.tmp 8), none, []⟩,
 ⟨some 42, .call (.func 126) [(.tmp 40), (.tmp 41)], none, []⟩,
 ⟨some 43, .len_ (.tmp 42), none, []⟩,
 ⟨some 44, .mv (.const (.int .i64 0)), none, []⟩] [40, 41])
 (.block 4
 (.loop
 (.seq
 (.region false [⟨some 45, .bin .lss (.tmp 44) (.tmp 43), none, []⟩] [])
 (.seq
 (.cond (.tmp 45)
 .skip
 (.exit 4))
 (.seq
 (.block 5
 (.seq
 (.region false [⟨some 46, .mv (.tmp 44), none, []⟩,
 ⟨some 47, .iadS 1 (.tmp 42) (.tmp 44), none, []⟩,
 ⟨some 48, .load1 (.tmp 47), none, []⟩,
 ⟨some 9, .mv (.tmp 46), none, []⟩,
 ⟨some 10, .mv (.tmp 48), none, []⟩] [46, 47, 48])
 (.region false [⟨some 49, .mv (.tmp 5), none, []⟩,
 ⟨some 50, .mv (.tmp 9), none, []⟩,
 ⟨some 51, .mv (.tmp 5), none, []⟩,
 ⟨some 52, .mv (.tmp 9), none, []⟩,
 ⟨some 53, .iadS 1 (.tmp 51) (.tmp 52), none, []⟩,
 ⟨some 54, .load1 (.tmp 53), none, []⟩,
 ⟨some 55, .mv (.tmp 54), none, []⟩,
 ⟨some 56, .mv (.tmp 10), (some (some 55, true)), []⟩,
 ⟨some 57, .pick (.tmp 55) (.tmp 56) (.const (.bool false)), none, []⟩,
 ⟨some 58, .iadS 1 (.tmp 49) (.tmp 50), none, []⟩,
 ⟨none, .store 1 (.tmp 58) (.tmp 57), none, []⟩] [49, 50, 51, 52, 53, 54, 55, 56, 57, 58])))
 (.region false [⟨some 59, .bin .add (.tmp 44) (.const (.int .i64 1)), none, []⟩,
 ⟨some 44, .mv (.tmp 59), none, []⟩] [59])))))))))
 (.region false [⟨some 60, .bin .add (.tmp 36) (.const (.int .i64 1)), none, []⟩,
 ⟨some 36, .mv (.tmp 60), none, []⟩] [60])))))))
 (.seq
 (.region false [⟨some 11, .mv (.const (.int .i64 0)), none, []⟩] [])
 (.seq
 (.seq
 (.region false [⟨some 61, .mv (.tmp 5), none, []⟩,
 ⟨some 62, .len_ (.tmp 61), none, []⟩,
 ⟨some 63, .mv (.const (.int .i64 0)), none, []⟩] [])
 (.block 6
 (.loop
 (.seq
 (.region false [⟨some 64, .bin .lss (.tmp 63) (.tmp 62), none, []⟩] [])
 (.seq
 (.cond (.tmp 64)
 .skip
 (.exit 6))
 (.seq
 (.block 7
 (.seq
 (.region false [⟨some 65, .mv (.tmp 63), none, []⟩,
 ⟨some 66, .iadS 1 (.tmp 61) (.tmp 63), none, []⟩,
 ⟨some 67, .load1 (.tmp 66), none, []⟩,
 ⟨some 12, .mv (.tmp 65), none, []⟩,
 ⟨some 13, .mv (.tmp 67), none, []⟩] [65, 66, 67])
 (.seq
 (.seq
 (.region false [⟨some 68, .mv (.tmp 13), none, []⟩] [])
 (.cond (.tmp 68)
 (.exit 7)
 .skip))
 (.seq
 (.seq
 (.region false [⟨some 69, .mv (.tmp 12), none, []⟩,
 ⟨some 70, .mv (.tmp 11), none, []⟩,
 ⟨some 71, .bin .sub (.tmp 69) (.tmp 70), none, []⟩,
 ⟨some 72, .fad 1 (.tmp 3), none, []⟩,
 ⟨some 73, .load1 (.tmp 72), none, []⟩,
 ⟨some 74, .bin .geq (.tmp 71) (.tmp 73), none, []⟩] [69, 70, 71, 72, 73])
 (.cond (.tmp 74)
 (.region false [⟨some 75, .mv (.tmp 4), none, []⟩,
 ⟨some 76, .mv (.tmp 11), none, []⟩,
 ⟨some 77, .mv (.tmp 12), none, []⟩,
 ⟨some 78, .bin .sub (.tmp 77) (.const (.int .i64 1)), none, []⟩,
 ⟨some 79, .build [(.val (.int .i64 0)), (.val (.int .i64 0))] [(0, 1, (.tmp 76)), (1, 1, (.tmp 78))], none, []⟩,
 ⟨some 80, .buildSl 2 1 [(.val (.int .i64 0)), (.val (.int .i64 0))] [(0, 2, (.tmp 79))], none, []⟩,
 ⟨some 81, .app 2 16 (.tmp 75) (.tmp 80), none, []⟩,
 ⟨some 4, .mv (.tmp 81), none, []⟩] [75, 76, 77, 78, 79, 80, 81])
 .skip))
 (.region false [⟨some 82, .mv (.tmp 12), none, []⟩,
 ⟨some 83, .bin .add (.tmp 82) (.const (.int .i64 1)), none, []⟩,
 ⟨some 11, .mv (.tmp 83), none, []⟩] [82, 83])))))
 (.region false [⟨some 84, .bin .add (.tmp 63) (.const (.int .i64 1)), none, []⟩,
 ⟨some 63, .mv (.tmp 84), none, []⟩] [84])))))))
 (.seq
 (.region false [⟨some 85, .mv (.tmp 4), none, []⟩,
 ⟨some 4, .mv (.tmp 85), none, []⟩] [85])
 .ret)))))))
set_option maxRecDepth 100000 in
theorem kprecord_tape_events : IsCode Try.prog 94 86 cprecord_tape_events [.tmp 4] :=
 ⟨Try.f94, _, [74, 68, 64, 45, 37, 27, 1, 0, 26, 25, 5, 6, 3, 36, 35, 34, 8, 44, 43, 42, 9, 10, 63, 62, 61, 13, 12, 11, 4], Try.func94, rfl, by decide, rfl, by kernel_rfl, by kernel_rfl⟩
def cref12_CheckEvent : ACode :=
 (.seq
 (.region false [⟨some 2, .box (.tmp 0), none, []⟩,
 ⟨some 3, .box (.tmp 1), none, []⟩,
 ⟨some 4, .mv (.const (.bool false)), none, []⟩] [])
 (.seq
 (.seq
 (.region false [⟨some 6, .fad 0 (.tmp 3), none, []⟩,
 ⟨some 7, .load1 (.tmp 6), none, []⟩,
 ⟨some 8, .len_ (.tmp 7), none, []⟩,
 ⟨some 9, .call (.func 79) [(.tmp 8), (.const (.int .i64 1)), (.const (.int .i64 4))], none, []⟩,
 ⟨some 10, .un .not (.tmp 9), none, []⟩,
 ⟨some 11, .mv (.tmp 10), none, []⟩,
 ⟨some 12, .fad 1 (.tmp 3), (some (some 11, false)), []⟩,
 ⟨some 13, .load1 (.tmp 12), (some (some 11, false)), []⟩,
 ⟨some 14, .call (.func 79) [(.tmp 13), (.const (.int .i64 1)), (.const (.int .i64 100))], (some (some 11, false)), []⟩,
 ⟨some 15, .un .not (.tmp 14), (some (some 11, false)), []⟩,
 ⟨some 16, .pick (.tmp 11) (.const (.bool true)) (.tmp 15), none, []⟩] [6, 7, 8, 9, 10, 11, 12, 13, 14, 15])
 (.cond (.tmp 16)
 (.seq
 (.region false [⟨some 4, .mv (.const (.bool false)), none, []⟩] [])
 .ret)
 .skip))
 (.seq
 (.seq
 (.region false [⟨some 5, .mv (.const (.int .i64 0)), none, []⟩] [])
 (.block 0
 (.loop
 (.seq
 (.seq
 (.region false [⟨some 17, .mv (.tmp 5), none, []⟩,
 ⟨some 18, .fad 0 (.tmp 3), none, []⟩,
 ⟨some 19, .load1 (.tmp 18), none, []⟩,
 ⟨some 20, .len_ (.tmp 19), none, []⟩,
 ⟨some 21, .bin .lss (.tmp 17) (.tmp 20), none, []⟩] [17, 18, 19, 20])
 (.cond (.tmp 21)
 .skip
 (.exit 0)))
 (.seq
 (.block 1
 (.seq
 (.region true [⟨some 24, .loadN 6 (.tmp 2), none, []⟩,
 ⟨some 25, .fad 0 (.tmp 3), none, []⟩,
 ⟨some 26, .load1 (.tmp 25), none, [1]⟩,
 ⟨some 27, .mv (.tmp 5), none, []⟩,
 ⟨some 28, .iadS 3 (.tmp 26) (.tmp 27), none, [2, 1, 3]⟩,
 ⟨some 29, .fad 0 (.tmp 28), none, [4, 2, 1, 3]⟩,
 ⟨some 30, .load1 (.tmp 29), none, [5, 4, 2, 1, 3]⟩,
 ⟨some 31, .call (.func 69) [(.tmp 24), (.tmp 30)], none, [0, 6, 5, 4, 2, 1, 3]⟩,
 ⟨some 32, .un .not (.tmp 31), none, [7, 0, 6, 5, 4, 2, 1, 3]⟩,
 ⟨some 33, .mv (.tmp 32), none, [8, 7, 0, 6, 5, 4, 2, 1, 3]⟩,
 ⟨some 34, .fad 0 (.tmp 3), (some (some 33, false)), [9, 8, 7, 0, 6, 5, 4, 2, 1, 3]⟩,
 ⟨some 35, .load1 (.tmp 34), (some (some 33, false)), [10, 9, 8, 7, 0, 6, 5, 4, 2, 1, 3]⟩,
 ⟨some 36, .mv (.tmp 5), (some (some 33, false)), [9, 8, 7, 0, 6, 5, 4, 2, 1, 3]⟩,
 ⟨some 37, .iadS 3 (.tmp 35) (.tmp 36), (some (some 33, false)), [11, 10, 9, 8, 7, 0, 6, 5, 4, 2, 1, 3, 12]⟩,
 ⟨some 38, .fad 1 (.tmp 37), (some (some 33, false)), [13, 11, 10, 9, 8, 7, 0, 6, 5, 4, 2, 1, 3, 12]⟩,
 ⟨some 39, .load1 (.tmp 38), (some (some 33, false)), [14, 13, 11, 10, 9, 8, 7, 0, 6, 5, 4, 2, 1, 3, 12]⟩,
 ⟨some 40, .call (.func 79) [(.tmp 39), (.const (.int .i64 (-1000000))), (.const (.int .i64 1000000))], (some (some 33, false)), [15, 14, 13, 11, 10, 9, 8, 7, 0, 6, 5, 4, 2, 1, 3, 12]⟩,
 ⟨some 41, .un .not (.tmp 40), (some (some 33, false)), [16, 15, 14, 13, 11, 10, 9, 8, 7, 0, 6, 5, 4, 2, 1, 3, 12]⟩,
 ⟨some 42, .pick (.tmp 33) (.const (.bool true)) (.tmp 41), none, [9, 8, 7, 0, 6, 5, 4, 2, 1, 3, 17, 16, 15, 14, 13, 11, 10, 12]⟩] [24, 25, 26, 27, 28, 29, 30, 31, 32, 33, 34, 35, 36, 37, 38, 39, 40, 41])
 (.cond (.tmp 42)
 (.seq
 (.region false [⟨some 4, .mv (.const (.bool false)), none, []⟩] [])
 .ret)
 .skip)))
 (.region false [⟨some 22, .mv (.tmp 5), none, []⟩,
 ⟨some 23, .bin .add (.tmp 22) (.const (.int .i64 1)), none, []⟩,
 ⟨some 5, .mv (.tmp 23), none, []⟩] [22, 23]))))))
 (.seq
 (.region false [⟨some 4, .mv (.const (.bool true)), none, []⟩] [])
 .ret))))
set_option maxRecDepth 100000 in
theorem kref12_CheckEvent : IsCode Try.prog 49 43 cref12_CheckEvent [.tmp 4] :=
 ⟨Try.f49, _, [42, 21, 16, 0, 1, 3, 5, 2, 4], Try.func49, rfl, by decide, rfl, by kernel_rfl, by kernel_rfl⟩
def cref12_Holding : ACode :=
 (.seq
 (.region false [⟨some 4, .box (.tmp 0), none, []⟩,
 ⟨some 6, .box (.tmp 2), none, []⟩,
 ⟨some 8, .mv (.const (.bool false)), none, []⟩] [])
 (.seq
 (.region false [⟨some 13, .fad 5 (.tmp 4), none, []⟩,
 ⟨some 14, .load1 (.tmp 13), none, []⟩,
 ⟨some 15, .fad 0 (.tmp 6), none, []⟩,
 ⟨some 16, .load1 (.tmp 15), none, []⟩,
 ⟨some 17, .iadS 9 (.tmp 14) (.tmp 16), none, []⟩,
 ⟨some 18, .loadN 9 (.tmp 17), none, []⟩,
 ⟨some 9, .mem [(.val (.int .i64 0)), (.val (.int .i64 0)), (.val (.int .i64 0)), (.val (.bool false)), (.val (.int .i64 0)), (.val (.int .i64 0)), (.val (.int .i64 0)), (.val (.int .i64 0)), (.val (.int .i64 0))], none, []⟩,
 ⟨none, .store 9 (.tmp 9) (.tmp 18), none, []⟩] [13, 14, 15, 16, 17, 18])
 (.seq
 (.seq
 (.region false [⟨some 19, .mv (.tmp 3), none, []⟩,
 ⟨some 10, .mv (.tmp 19), none, []⟩] [19])
 (.block 0
 (.loop
 (.seq
 (.seq
 (.region false [⟨some 20, .mv (.tmp 10), none, []⟩,
 ⟨some 21, .bin .geq (.tmp 20) (.const (.int .i64 0)), none, []⟩,
 ⟨some 22, .mv (.tmp 21), none, []⟩,
 ⟨some 23, .mv (.tmp 10), (some (some 22, true)), []⟩,
 ⟨some 24, .mv (.tmp 3), (some (some 22, true)), []⟩,
 ⟨some 25, .fad 7 (.tmp 9), (some (some 22, true)), []⟩,
 ⟨some 26, .load1 (.tmp 25), (some (some 22, true)), []⟩,
 ⟨some 27, .bin .sub (.tmp 24) (.tmp 26), (some (some 22, true)), []⟩,
 ⟨some 28, .bin .gtr (.tmp 23) (.tmp 27), (some (some 22, true)), []⟩,
 ⟨some 29, .pick (.tmp 22) (.tmp 28) (.const (.bool false)), none, []⟩] [20, 21, 22, 23, 24, 25, 26, 27, 28])
 (.cond (.tmp 29)
 .skip
 (.exit 0)))
 (.seq
 (.block 1
 (.seq
 (.region true [⟨some 33, .loadN 6 (.tmp 4), none, []⟩,
 ⟨some 34, .loadN 9 (.tmp 9), none, []⟩,
 ⟨some 35, .mv (.tmp 1), none, []⟩,
 ⟨some 36, .mv (.tmp 10), none, []⟩,
 ⟨some 37, .iadS 1 (.tmp 35) (.tmp 36), none, [2, 3]⟩,
 ⟨some 38, .load1 (.tmp 37), none, [4, 2, 3]⟩,
 ⟨some 39, .call (.func 96) [(.tmp 33), (.tmp 34), (.tmp 38)], none, [0, 1, 5, 4, 2, 3]⟩,
 ⟨some 32, .mv (.tmp 39), none, [6, 0, 1, 5, 4, 2, 3]⟩,
 ⟨some 40, .ext (.tmp 32) 0, none, [7, 6, 0, 1, 5, 4, 2, 3]⟩,
 ⟨some 41, .ext (.tmp 32) 1, none, [7, 6, 0, 1, 5, 4, 2, 3]⟩,
 ⟨some 11, .mv (.tmp 40), none, [8, 7, 6, 0, 1, 5, 4, 2, 3]⟩,
 ⟨some 12, .mv (.tmp 41), none, [9, 7, 6, 0, 1, 5, 4, 2, 3, 10, 8]⟩] [33, 34, 35, 36, 37, 38, 39, 32, 40, 41])
 (.seq
 (.region false [⟨some 42, .mv (.tmp 12), none, []⟩] [])
 (.cond (.tmp 42)
 (.seq
 (.region false [⟨some 43, .fad 2 (.tmp 6), none, []⟩,
 ⟨some 44, .load1 (.tmp 43), none, []⟩,
 ⟨some 45, .mv (.tmp 44), none, []⟩,
 ⟨some 46, .mv (.tmp 11), (some (some 45, true)), []⟩,
 ⟨some 47, .fad 1 (.tmp 6), (some (some 45, true)), []⟩,
 ⟨some 48, .load1 (.tmp 47), (some (some 45, true)), []⟩,
 ⟨some 49, .fad 5 (.tmp 9), (some (some 45, true)), []⟩,
 ⟨some 50, .load1 (.tmp 49), (some (some 45, true)), []⟩,
 ⟨some 51, .bin .mul (.tmp 48) (.tmp 50), (some (some 45, true)), []⟩,
 ⟨some 52, .bin .geq (.tmp 46) (.tmp 51), (some (some 45, true)), []⟩,
 ⟨some 53, .pick (.tmp 45) (.tmp 52) (.const (.bool false)), none, []⟩,
 ⟨some 54, .mv (.tmp 53), none, []⟩,
 ⟨some 55, .fad 2 (.tmp 6), (some (some 54, false)), []⟩,
 ⟨some 56, .load1 (.tmp 55), (some (some 54, false)), []⟩,
 ⟨some 57, .un .not (.tmp 56), (some (some 54, false)), []⟩,
 ⟨some 58, .mv (.tmp 57), (some (some 54, false)), []⟩,
 ⟨some 59, .mv (.tmp 11), (some (some 58, true)), []⟩,
 ⟨some 60, .fad 1 (.tmp 6), (some (some 58, true)), []⟩,
 ⟨some 61, .load1 (.tmp 60), (some (some 58, true)), []⟩,
 ⟨some 62, .fad 5 (.tmp 9), (some (some 58, true)), []⟩,
 ⟨some 63, .load1 (.tmp 62), (some (some 58, true)), []⟩,
 ⟨some 64, .bin .mul (.tmp 61) (.tmp 63), (some (some 58, true)), []⟩,
 ⟨some 65, .bin .leq (.tmp 59) (.tmp 64), (some (some 58, true)), []⟩,
 ⟨some 66, .pick (.tmp 58) (.tmp 65) (.const (.bool false)), (some (some 54, false)), []⟩,
 ⟨some 67, .pick (.tmp 54) (.const (.bool true)) (.tmp 66), none, []⟩,
 ⟨some 8, .mv (.tmp 67), none, []⟩] [43, 44, 45, 46, 47, 48, 49, 50, 51, 52, 53, 54, 55, 56, 57, 58, 59, 60, 61, 62, 63, 64, 65, 66, 67])
 .ret)
 .skip))))
 (.region false [⟨some 30, .mv (.tmp 10), none, []⟩,
 ⟨some 31, .bin .sub (.tmp 30) (.const (.int .i64 1)), none, []⟩,
 ⟨some 10, .mv (.tmp 31), none, []⟩] [30, 31]))))))
 (.seq
 (.region false [⟨some 8, .mv (.const (.bool false)), none, []⟩] [])
 .ret))))
set_option maxRecDepth 100000 in
theorem kref12_Holding : IsCode Try.prog 50 68 cref12_Holding [.tmp 8] :=
 ⟨Try.f50, _, [42, 29, 0, 2, 4, 6, 3, 10, 9, 1, 12, 11, 8], Try.func50, rfl, by decide, rfl, by kernel_rfl, by kernel_rfl⟩
def cref12_events : ACode :=
 (.seq
 (.region false [⟨some 3, .box (.tmp 0), none, []⟩,
 ⟨some 5, .box (.tmp 2), none, []⟩,
 ⟨some 6, .mv (.const (.slice none 0 0)), none, []⟩] [])
 (.seq
 (.region false [⟨some 7, .mv (.const (.slice none 0 0)), none, []⟩] [])
 (.seq
 (.region false [⟨some 8, .mv (.const (.int .i64 (-1))), none, []⟩] [])
 (.seq
 (.seq
 (.region false [⟨some 9, .mv (.const (.int .i64 0)), none, []⟩] [])
 (.block 0
 (.loop
 (.seq
 (.seq
 (.region false [⟨some 12, .mv (.tmp 9), none, []⟩,
 ⟨some 13, .mv (.tmp 1), none, []⟩,
 ⟨some 14, .len_ (.tmp 13), none, []⟩,
 ⟨some 15, .bin .leq (.tmp 12) (.tmp 14), none, []⟩] [12, 13, 14])
 (.cond (.tmp 15)
 .skip
 (.exit 0)))
 (.seq
 (.block 1
 (.seq
 (.region false [⟨some 18, .mv (.tmp 9), none, []⟩,
 ⟨some 19, .mv (.tmp 1), none, []⟩,
 ⟨some 20, .len_ (.tmp 19), none, []⟩,
 ⟨some 21, .bin .lss (.tmp 18) (.tmp 20), none, []⟩,
 ⟨some 10, .mv (.tmp 21), none, []⟩] [18, 19, 20, 21])
 (.seq
 (.seq
 (.region false [⟨some 11, .mv (.const (.int .i64 0)), none, []⟩] [])
 (.block 2
 (.loop
 (.seq
 (.seq
 (.region false [⟨some 22, .mv (.tmp 11), none, []⟩,
 ⟨some 23, .fad 0 (.tmp 5), none, []⟩,
 ⟨some 24, .load1 (.tmp 23), none, []⟩,
 ⟨some 25, .len_ (.tmp 24), none, []⟩,
 ⟨some 26, .bin .lss (.tmp 22) (.tmp 25), none, []⟩,
 ⟨some 27, .mv (.tmp 26), none, []⟩,
 ⟨some 28, .mv (.tmp 10), (some (some 27, true)), []⟩,
 ⟨some 29, .pick (.tmp 27) (.tmp 28) (.const (.bool false)), none, []⟩] [22, 23, 24, 25, 26, 27, 28])
 (.cond (.tmp 29)
 .skip
 (.exit 2)))
 (.seq
 (.block 3
 (.region true [⟨some 32, .loadN 6 (.tmp 3), none, []⟩,
 ⟨some 33, .mv (.tmp 1), none, []⟩,
 ⟨some 34, .fad 0 (.tmp 5), none, []⟩,
 ⟨some 35, .load1 (.tmp 34), none, [2]⟩,
 ⟨some 36, .mv (.tmp 11), none, []⟩,
 ⟨some 37, .iadS 3 (.tmp 35) (.tmp 36), none, [3, 2, 4]⟩,
 ⟨some 38, .loadN 3 (.tmp 37), none, [5, 3, 2, 4]⟩,
 ⟨some 39, .mv (.tmp 9), none, []⟩,
 ⟨some 40, .call (.func 50) [(.tmp 32), (.tmp 33), (.tmp 38), (.tmp 39)], none, [0, 1, 6, 5, 3, 2, 4, 7]⟩,
 ⟨some 10, .mv (.tmp 40), none, [8, 0, 1, 6, 5, 3, 2, 4, 7]⟩] [32, 33, 34, 35, 36, 37, 38, 39, 40]))
 (.region false [⟨some 30, .mv (.tmp 11), none, []⟩,
 ⟨some 31, .bin .add (.tmp 30) (.const (.int .i64 1)), none, []⟩,
 ⟨some 11, .mv (.tmp 31), none, []⟩] [30, 31]))))))
 (.seq
 (.seq
 (.region false [⟨some 41, .mv (.tmp 10), none, []⟩,
 ⟨some 42, .mv (.tmp 41), none, []⟩,
 ⟨some 43, .mv (.tmp 8), (some (some 42, true)), []⟩,
 ⟨some 44, .bin .lss (.tmp 43) (.const (.int .i64 0)), (some (some 42, true)), []⟩,
 ⟨some 45, .pick (.tmp 42) (.tmp 44) (.const (.bool false)), none, []⟩] [41, 42, 43, 44])
 (.cond (.tmp 45)
 (.region false [⟨some 46, .mv (.tmp 9), none, []⟩,
 ⟨some 8, .mv (.tmp 46), none, []⟩] [46])
 .skip))
 (.seq
 (.region false [⟨some 47, .mv (.tmp 10), none, []⟩,
 ⟨some 48, .un .not (.tmp 47), none, []⟩,
 ⟨some 49, .mv (.tmp 48), none, []⟩,
 ⟨some 50, .mv (.tmp 8), (some (some 49, true)), []⟩,
 ⟨some 51, .bin .geq (.tmp 50) (.const (.int .i64 0)), (some (some 49, true)), []⟩,
 ⟨some 52, .pick (.tmp 49) (.tmp 51) (.const (.bool false)), none, []⟩] [47, 48, 49, 50, 51])
 (.cond (.tmp 52)
 (.seq
 (.seq
 (.region false [⟨some 53, .mv (.tmp 9), none, []⟩,
 ⟨some 54, .mv (.tmp 8), none, []⟩,
 ⟨some 55, .bin .sub (.tmp 53) (.tmp 54), none, []⟩,
 ⟨some 56, .fad 1 (.tmp 5), none, []⟩,
 ⟨some 57, .load1 (.tmp 56), none, []⟩,
 ⟨some 58, .bin .geq (.tmp 55) (.tmp 57), none, []⟩] [53, 54, 55, 56, 57])
 (.cond (.tmp 58)
 (.region false [⟨some 59, .mv (.tmp 7), none, []⟩,
 ⟨some 60, .mv (.tmp 8), none, []⟩,
 ⟨some 61, .mv (.tmp 9), none, []⟩,
 ⟨some 62, .bin .sub (.tmp 61) (.const (.int .i64 1)), none, []⟩,
 ⟨some 63, .build [(.val (.int .i64 0)), (.val (.int .i64 0))] [(0, 1, (.tmp 60)), (1, 1, (.tmp 62))], none, []⟩,
 ⟨some 64, .buildSl 2 1 [(.val (.int .i64 0)), (.val (.int .i64 0))] [(0, 2, (.tmp 63))], none, []⟩,
 ⟨some 65, .app 2 16 (.tmp 59) (.tmp 64), none, []⟩,
 ⟨some 7, .mv (.tmp 65), none, []⟩] [59, 60, 61, 62, 63, 64, 65])
 .skip))
 (.region false [⟨some 8, .mv (.const (.int .i64 (-1))), none, []⟩] []))
 .skip))))))
 (.region false [⟨some 16, .mv (.tmp 9), none, []⟩,
 ⟨some 17, .bin .add (.tmp 16) (.const (.int .i64 1)), none, []⟩,
 ⟨some 9, .mv (.tmp 17), none, []⟩] [16, 17]))))))
 (.seq
 (.region false [⟨some 66, .mv (.tmp 7), none, []⟩,
 ⟨some 6, .mv (.tmp 66), none, []⟩] [66])
 .ret)))))
set_option maxRecDepth 100000 in
theorem kref12_events : IsCode Try.prog 95 67 cref12_events [.tmp 6] :=
 ⟨Try.f95, _, [58, 52, 45, 29, 15, 0, 2, 9, 1, 11, 5, 10, 3, 8, 7, 6], Try.func95, rfl, by decide, rfl, by kernel_rfl, by kernel_rfl⟩
def claw12_copied : ACode :=
 (.seq
 (.region false [⟨some 1, .box (.tmp 0), none, []⟩,
 ⟨some 2, .mem [(.val (.slice none 0 0)), (.val (.int .i64 0))], none, []⟩] [])
 (.seq
 (.region true [⟨some 3, .buildSl 3 0 [] [], none, []⟩,
 ⟨some 4, .fad 0 (.tmp 1), none, []⟩,
 ⟨some 5, .load1 (.tmp 4), none, [1]⟩,
 ⟨some 6, .app 3 24 (.tmp 3) (.tmp 5), none, [0, 2, 1]⟩,
 ⟨some 7, .fad 1 (.tmp 1), none, []⟩,
 ⟨some 8, .load1 (.tmp 7), none, [4]⟩,
 ⟨some 9, .build [(.val (.slice none 0 0)), (.val (.int .i64 0))] [(0, 1, (.tmp 6)), (1, 1, (.tmp 8))], none, [3, 0, 2, 1, 5, 4]⟩,
 ⟨none, .store 2 (.tmp 2) (.tmp 9), none, [6, 3, 0, 2, 1, 5, 4]⟩] [3, 4, 5, 6, 7, 8, 9])
 .ret))
set_option maxRecDepth 100000 in
theorem klaw12_copied : IsCode Try.prog 46 10 claw12_copied [.cellN 2 2] :=
 ⟨Try.f46, _, [0, 1, 2], Try.func46, rfl, by decide, rfl, by kernel_rfl, by kernel_rfl⟩
def claw12_farEvent : ACode :=
 (.seq
 (.region false [⟨some 1, .box (.tmp 0), none, []⟩,
 ⟨some 2, .mv (.const (.bool false)), none, []⟩] [])
 (.seq
 (.region false [⟨some 3, .fad 0 (.tmp 1), none, []⟩,
 ⟨some 4, .load1 (.tmp 3), none, []⟩,
 ⟨some 5, .len_ (.tmp 4), none, []⟩,
 ⟨some 6, .bin .gtr (.tmp 5) (.const (.int .i64 8)), none, []⟩,
 ⟨some 2, .mv (.tmp 6), none, []⟩] [3, 4, 5, 6])
 .ret))
set_option maxRecDepth 100000 in
theorem klaw12_farEvent : IsCode Try.prog 44 7 claw12_farEvent [.tmp 2] :=
 ⟨Try.f44, _, [0, 1, 2], Try.func44, rfl, by decide, rfl, by kernel_rfl, by kernel_rfl⟩
end Go.Proofs.Ytdcodicoclecnaa
/- The functions' bodies, translated. Written by a program; no conditions. -/
namespace Go.Proofs.Ytdcodicoclecnaa
open Go.RowKit Lift

def cprecord_tape_valid_S1 : ACode :=
 (.seq
 (.region false [⟨some 2, .box (.tmp 0), none, []⟩,
 ⟨some 3, .mv (.const (.bool false)), none, []⟩] [])
 (.seq
 (.region false [⟨some 4, .load1 (.tmp 1), none, []⟩,
 ⟨some 5, .fad 0 (.tmp 2), none, []⟩,
 ⟨some 6, .load1 (.tmp 5), none, []⟩,
 ⟨some 7, .call (.func 112) [(.tmp 4), (.tmp 6)], none, []⟩,
 ⟨some 8, .un .not (.tmp 7), none, []⟩,
 ⟨some 9, .mv (.tmp 8), none, []⟩,
 ⟨some 10, .fad 1 (.tmp 2), (some (some 9, false)), []⟩,
 ⟨some 11, .load1 (.tmp 10), (some (some 9, false)), []⟩,
 ⟨some 12, .call (.func 74) [(.tmp 11), (.const (.int .i64 (-1000000))), (.const (.int .i64 1000000))], (some (some 9, false)), []⟩,
 ⟨some 13, .un .not (.tmp 12), (some (some 9, false)), []⟩,
 ⟨some 14, .pick (.tmp 9) (.const (.bool true)) (.tmp 13), none, []⟩,
 ⟨some 3, .mv (.tmp 14), none, []⟩] [4, 5, 6, 7, 8, 9, 10, 11, 12, 13, 14])
 .ret))
set_option maxRecDepth 100000 in
theorem kprecord_tape_valid_S1 : IsCode Try.prog 124 15 cprecord_tape_valid_S1 [.tmp 3] :=
 ⟨Try.f124, _, [0, 1, 2, 3], Try.func124, rfl, by decide, rfl, by kernel_rfl, by kernel_rfl⟩
def cslices_ContainsFunc_L_L_Japi_Condition_Kapi_Condition_J : ACode :=
 (.seq
 (.region false [⟨some 4, .mv (.const (.bool false)), none, []⟩] [])
 (.seq
 (.region false [⟨some 5, .mv (.tmp 0), none, []⟩,
 ⟨some 6, .mv (.tmp 1), none, []⟩,
 ⟨some 7, .call (.func 151) [(.tmp 5), (.tmp 6)], none, []⟩,
 ⟨some 8, .bin .geq (.tmp 7) (.const (.int .i64 0)), none, []⟩,
 ⟨some 4, .mv (.tmp 8), none, []⟩] [5, 6, 7, 8])
 .ret))
set_option maxRecDepth 100000 in
theorem kslices_ContainsFunc_L_L_Japi_Condition_Kapi_Condition_J : IsCode Try.prog 125 9 cslices_ContainsFunc_L_L_Japi_Condition_Kapi_Condition_J [.tmp 4] :=
 ⟨Try.f125, _, [0, 1, 4], Try.func125, rfl, by decide, rfl, by kernel_rfl, by kernel_rfl⟩
def cslices_IndexFunc_L_L_Japi_Condition_Kapi_Condition_J : ACode :=
 (.seq
 (.region false [⟨some 4, .mv (.const (.int .i64 0)), none, []⟩] [])
 (.seq
 (.seq
 (.region false [⟨some 6, .mv (.tmp 0), none, []⟩,
 ⟨some 7, .len_ (.tmp 6), none, []⟩,
 ⟨some 8, .mv (.const (.int .i64 0)), none, []⟩] [6])
 (.block 0
 (.loop
 (.seq
 (.region false [⟨some 9, .bin .lss (.tmp 8) (.tmp 7), none, []⟩] [])
 (.seq
 (.cond (.tmp 9)
 .skip
 (.exit 0))
 (.seq
 (.block 1
 (.seq
 (.region false [⟨some 10, .mv (.tmp 8), none, []⟩,
 ⟨some 5, .mv (.tmp 10), none, []⟩] [10])
 (.seq
 (.region false [⟨some 11, .mv (.tmp 1), none, []⟩,
 ⟨some 12, .mv (.tmp 0), none, []⟩,
 ⟨some 13, .mv (.tmp 5), none, []⟩,
 ⟨some 14, .iadS 3 (.tmp 12) (.tmp 13), none, []⟩,
 ⟨some 15, .loadN 3 (.tmp 14), none, []⟩,
 ⟨some 16, .call (.tmp 11) [(.tmp 15)], none, []⟩] [11, 12, 13, 14, 15])
 (.cond (.tmp 16)
 (.seq
 (.region false [⟨some 17, .mv (.tmp 5), none, []⟩,
 ⟨some 4, .mv (.tmp 17), none, []⟩] [17])
 .ret)
 .skip))))
 (.region false [⟨some 18, .bin .add (.tmp 8) (.const (.int .i64 1)), none, []⟩,
 ⟨some 8, .mv (.tmp 18), none, []⟩] [18])))))))
 (.seq
 (.region false [⟨some 4, .mv (.const (.int .i64 (-1))), none, []⟩] [])
 .ret)))
set_option maxRecDepth 100000 in
theorem kslices_IndexFunc_L_L_Japi_Condition_Kapi_Condition_J : IsCode Try.prog 151 19 cslices_IndexFunc_L_L_Japi_Condition_Kapi_Condition_J [.tmp 4] :=
 ⟨Try.f151, _, [16, 9, 0, 8, 7, 1, 5, 4], Try.func151, rfl, by decide, rfl, by kernel_rfl, by kernel_rfl⟩
end Go.Proofs.Ytdcodicoclecnaa
/- record: what an event must be. No conditions. -/
namespace Go.Proofs.Ytdcodicoclecnaa
open Go Go.RowKit Lift

theorem in_cd (S : Nat → Prop) (c : Cd) : In S (.agg (cdC c)) := .agg _ (by intro d hd; simp [cdC] at hd; rcases hd with rfl | rfl | rfl <;> exact .val _)
def evD (cs : List Cd) (h : Int) : D := .agg [.list (cds cs), dI h]
theorem in_ev (S : Nat → Prop) (cs : List Cd) (h : Int) : In S (evD cs h) := .agg _ (by intro d hd; simp at hd; rcases hd with rfl | rfl; exact .list _; exact .val _)
def cdB (l : Lay) (c : Cd) : Bool := wI c.field 0 ((l.fl.length : Int) - 1) && wI c.lim (-1000000) 1000000
def evB (l : Lay) (cs : List Cd) (h : Int) : Bool := wI cs.length 1 4 && cs.all (cdB l) && wI h 1 100
set_option maxRecDepth 100000 in
set_option maxHeartbeats 2000000 in
theorem bad_ac (l : Lay) (frs : List (List Int)) (c : Cd) (hn : l.fl.length ≤ 1000) : AC Try.prog 124 [.agg (cdC c), .ptr 152 0] [(96, tpC l frs), (152, [.ptr 96 0])] [(96, some (tpC l frs)), (152, some [.ptr 96 0])] (dB (!cdB l c)) := by
  refine kprecord_tape_valid_S1.ac (n0 := 200) (by simp) ⟨in_cd _ _, .ptr _ _ (by omega), trivial⟩ ⟨⟨by omega, tpC_in _ _ _⟩, ⟨by omega, by intro d hd; simp at hd; subst hd; exact .ptr _ _ (by omega)⟩, trivial⟩ rfl ?_
  unfold cprecord_tape_valid_S1 cdC cdB
  have h1 := has_ac l frs c.field hn
  have h2 := within_ac c.lim (-1000000) 1000000
  cases q1 : wI c.field 0 ((l.fl.length : Int) - 1) <;> cases q2 : wI c.lim (-1000000) 1000000
  all_goals
    rw [q1] at h1
    rw [q2] at h2
    (repeat' (first | (with_reducible first | refine thenQ_n ?_ | refine blockQ_n ?_ | refine thenQ_e ?_ | refine blockQ_t ?_ | refine blockQ_f (by decide) ?_) | apply aw_seq | apply aw_skip | apply aw_exit | apply aw_ret | apply aw_block | apply aw_condT rfl | apply aw_condF rfl | ((first | refine aw_hide fun K hK => aw_region ?_ | refine acallB (h1) (by repeat' (first | exact trivial | exact rfl | refine And.intro ?_ ?_)) (by kernel_rfl) (by kernel_rfl) (by kernel_rfl) ?_ | refine acall0 (h2) ?_ | refine ago_if (by omega) ?_ | skip); simp (disch := first | exact okY | omega) only [List.length, Nat.zero_add, Nat.reduceAdd, Nat.reduceMul, envOf, dI, dB, ARun_none, AOpRun, aexec, D.isBot, FSt.ev, St.F, ↓eget_h, Bool.false_eq_true, Option.isSome, hget_c, Nat.reduceBEq, hget_n, cond_false, or_self, ↓reduceIte, D.cells, AGo_ok, St.app, putO, eput_c, eput_n, hups, hput_c, hput_n, List.map, ARun_nil, dropE_c, inL_n, dropE_n, Int.reduceNeg, Option.map, run1, eget_c, ↓hget_h, List.getElem?_cons_zero, beq_self_eq_true, cond_true, List.append_nil, Bool.not_false, ARun_some, AG_tf, inL_c, Bool.and_false, Bool.and_true, Bool.not_true, AG_ff, List.getElem?_cons_succ]) | subst hK))
    all_goals (refine end_q [] [(96, 96), (152, 152)] ?_ ?_ <;> repeat' (first | exact trivial | exact vr_val _ | exact vr_list _ | exact vr_ptr _ _ _ rfl | refine And.intro ⟨_, rfl, _, rfl, by decide, ?_⟩ ?_ | apply And.intro))
    all_goals exact tpC_in _ _ _
set_option maxRecDepth 100000 in
set_option maxHeartbeats 4000000 in
theorem ibad_ac (l : Lay) (frs : List (List Int)) (cs : List Cd) (hl : cs.length ≤ 1000000) (hn : l.fl.length ≤ 1000) : AC Try.prog 151 [.list (cds cs), .fn 124 [] [.ptr 152 0]] [(96, tpC l frs), (152, [.ptr 96 0])] [(96, some (tpC l frs)), (152, some [.ptr 96 0])] (dI (match cs.findIdx? (fun x => !cdB l x) with
    | some k => (k : Int)
    | none => -1)) := by
  refine kslices_IndexFunc_L_L_Japi_Condition_Kapi_Condition_J.ac (n0 := 200) (by simp) ⟨.list _, .fn _ _ _ (by simp) (by intro d hd; simp at hd; subst hd; exact .ptr _ _ (by omega)), trivial⟩ ⟨⟨by omega, tpC_in _ _ _⟩, ⟨by omega, by intro d hd; simp at hd; subst hd; exact .ptr _ _ (by omega)⟩, trivial⟩ rfl ?_
  unfold cslices_IndexFunc_L_L_Japi_Condition_Kapi_Condition_J
  (repeat' (first | (with_reducible first | refine thenQ_n ?_ | refine blockQ_n ?_ | refine thenQ_e ?_ | refine blockQ_t ?_ | refine blockQ_f (by decide) ?_) | apply aw_seq | apply aw_skip | apply aw_exit | apply aw_ret | apply aw_block | apply aw_condT rfl | apply aw_condF rfl | ((first | refine aw_hide fun K hK => aw_region ?_ | refine ago_if (by omega) ?_ | skip); simp (disch := first | exact okY | omega) only [List.length, Nat.zero_add, Nat.reduceMul, Nat.reduceAdd, envOf, ARun_none, AOpRun, aexec, FSt.ev, AGo_ok, St.app, putO, eput_c, Nat.reduceBEq, eput_n, cond_false, hups, List.map, ARun_nil, dropE_c, inL_n, dropE_n, St.F, ↓eget_h, eget_c, cds_len, inL_c, beq_self_eq_true, cond_true, Int.reduceNeg, dI]) | subst hK))
  refine aw_loop (fun k : Nat => ⟨[(0, .list (cds cs)), (1, .fn 124 [] [.ptr 152 0]), (7, dI cs.length), (8, dI k)], [(96, tpC l frs), (152, [.ptr 96 0])], 400⟩) (fun k => k ≤ cs.length ∧ ∀ j, j < k → cdB l (cs[j]?.getD cd0) = true) (fun k => cs.length - k) ⟨0, ⟨by omega, fun j hj => by omega⟩, ?_⟩ ?_
  · refine wk_q [] [(96, 96), (152, 152)] ?_ ?_ <;> repeat' (first | exact trivial | exact vr_val _ | exact vr_list _ | exact vr_ptr _ _ _ rfl | apply vr_fn | refine And.intro ⟨_, rfl, .inl ⟨_, rfl, by decide, ?_⟩⟩ ?_ | apply And.intro)
    all_goals exact tpC_in _ _ _
  rintro k ⟨hk, hin⟩
  by_cases hk2 : k < cs.length
  · have g1 := cds_gd cs k hk2
    have hb := bad_ac l frs (cs[k]?.getD cd0) hn
    unfold cdC at g1 hb
    cases he : cdB l (cs[k]?.getD cd0) with
    | false =>
      have q : cs.findIdx? (fun x => !cdB l x) = some k := by
        rw [List.findIdx?_eq_some_iff_getElem]
        refine ⟨hk2, by have := he; simp [hk2] at this; simp [this], fun j hj => ?_⟩
        have := hin j hj
        simpa [show j < cs.length by omega] using this
      rw [q]
      rw [he] at hb
      (have hg : (987654321 : Nat) - 987654321 = 0 := rfl; have hr := hg; repeat' (first | (with_reducible first | refine thenQ_n ?_ | refine blockQ_n ?_ | refine thenQ_e ?_ | refine blockQ_t ?_ | refine blockQ_f (by decide) ?_) | apply aw_seq | apply aw_skip | apply aw_exit | apply aw_ret | apply aw_block | apply aw_condT rfl | apply aw_condF rfl | (refine aw_cond rfl (fun hg => ?_) (fun hg => ?_) <;> (try (have hq := hg; simp only [Bool.not_eq_true', Bool.not_eq_false', Bool.and_eq_true, Bool.and_eq_false_iff, Bool.or_eq_true, Bool.or_eq_false_iff, decide_eq_true_eq, decide_eq_false_iff_not, bne_iff_ne, beq_iff_eq, beq_eq_false_iff_ne, bne_eq_false_iff_eq, ne_eq, Int.not_lt, Int.not_le, Decidable.not_not] at hq)) <;> (try (have hr := hg; simp only [decide_eq_true_eq, decide_eq_false_iff_not] at hr)) <;> (try (exfalso; omega))) | ((first | refine aw_hide fun K hK => aw_region ?_ | refine acallB (hb) (by repeat' (first | exact trivial | exact rfl | refine And.intro ?_ ?_)) (by kernel_rfl) (by kernel_rfl) (by kernel_rfl) ?_ | refine ago_if (by omega) ?_ | skip); simp (disch := first | exact okY | omega) only [List.length, Nat.zero_add, Nat.reduceMul, Nat.reduceAdd, dI, ARun_none, AOpRun, aexec, FSt.ev, St.F, eget_c, Nat.reduceBEq, ↓eget_h, cond_false, isSh, Bool.false_eq_true, ↓reduceIte, Option.map, abin, AGo_ok, St.app, putO, eput_c, eput_n, hups, List.map, ARun_nil, dropE_c, inL_n, dropE_n, hr, decide_true, inL_c, beq_self_eq_true, cond_true, Int.natCast_nonneg, cds_all, and_self, opt1, Int.toNat_natCast, g1, dB, Nat.reduceLeDiff, List.take, Bool.not_false, hput_c, hput_n, List.append_nil, blockQ, thenQ]) | subst hK))
      all_goals (refine end_q [] [(96, 96), (152, 152)] ?_ ?_ <;> repeat' (first | exact trivial | exact vr_val _ | exact vr_list _ | exact vr_ptr _ _ _ rfl | refine And.intro ⟨_, rfl, _, rfl, by decide, ?_⟩ ?_ | apply And.intro))
      all_goals exact tpC_in _ _ _
    | true =>
      rw [he] at hb
      (have hg : (987654321 : Nat) - 987654321 = 0 := rfl; have hr := hg; repeat' (first | (with_reducible first | refine thenQ_n ?_ | refine blockQ_n ?_ | refine thenQ_e ?_ | refine blockQ_t ?_ | refine blockQ_f (by decide) ?_) | apply aw_seq | apply aw_skip | apply aw_exit | apply aw_ret | apply aw_block | apply aw_condT rfl | apply aw_condF rfl | (refine aw_cond rfl (fun hg => ?_) (fun hg => ?_) <;> (try (have hq := hg; simp only [Bool.not_eq_true', Bool.not_eq_false', Bool.and_eq_true, Bool.and_eq_false_iff, Bool.or_eq_true, Bool.or_eq_false_iff, decide_eq_true_eq, decide_eq_false_iff_not, bne_iff_ne, beq_iff_eq, beq_eq_false_iff_ne, bne_eq_false_iff_eq, ne_eq, Int.not_lt, Int.not_le, Decidable.not_not] at hq)) <;> (try (have hr := hg; simp only [decide_eq_true_eq, decide_eq_false_iff_not] at hr)) <;> (try (exfalso; omega))) | ((first | refine aw_hide fun K hK => aw_region ?_ | refine acallB (hb) (by repeat' (first | exact trivial | exact rfl | refine And.intro ?_ ?_)) (by kernel_rfl) (by kernel_rfl) (by kernel_rfl) ?_ | refine ago_if (by omega) ?_ | skip); simp (disch := first | exact okY | omega) only [List.length, Nat.zero_add, Nat.reduceMul, Nat.reduceAdd, dI, ARun_none, AOpRun, aexec, FSt.ev, St.F, eget_c, Nat.reduceBEq, ↓eget_h, cond_false, isSh, Bool.false_eq_true, ↓reduceIte, Option.map, abin, AGo_ok, St.app, putO, eput_c, eput_n, hups, List.map, ARun_nil, dropE_c, inL_n, dropE_n, hr, decide_true, inL_c, beq_self_eq_true, cond_true, Int.natCast_nonneg, cds_all, and_self, opt1, Int.toNat_natCast, g1, dB, Nat.reduceLeDiff, List.take, Bool.not_true, hput_c, hput_n, List.append_nil, fits]) | subst hK))
      refine ⟨k + 1, ⟨by omega, fun j hj => ?_⟩, by omega, ?_⟩
      · rcases (by omega : j < k ∨ j = k) with h | rfl
        · exact hin j h
        · exact he
      · refine wk_q [] [(96, 96), (152, 152)] ?_ ?_ <;> repeat' (first | exact trivial | exact vr_val _ | exact vr_list _ | exact vr_ptr _ _ _ rfl | apply vr_fn | refine And.intro ⟨_, rfl, .inl ⟨_, rfl, by decide, ?_⟩⟩ ?_ | apply And.intro)
        all_goals exact tpC_in _ _ _
  · obtain rfl : k = cs.length := by omega
    have q : cs.findIdx? (fun x => !cdB l x) = none := by
      rw [List.findIdx?_eq_none_iff]
      intro y hy
      obtain ⟨j, hj, rfl⟩ := List.getElem_of_mem hy
      have := hin j hj
      simp [hj] at this
      simp [this]
    rw [q]
    (have hg : (987654321 : Nat) - 987654321 = 0 := rfl; have hr := hg; repeat' (first | (with_reducible first | refine thenQ_n ?_ | refine blockQ_n ?_ | refine thenQ_e ?_ | refine blockQ_t ?_ | refine blockQ_f (by decide) ?_) | apply aw_seq | apply aw_skip | apply aw_exit | apply aw_ret | apply aw_block | apply aw_condT rfl | apply aw_condF rfl | (refine aw_cond rfl (fun hg => ?_) (fun hg => ?_) <;> (try (have hq := hg; simp only [Bool.not_eq_true', Bool.not_eq_false', Bool.and_eq_true, Bool.and_eq_false_iff, Bool.or_eq_true, Bool.or_eq_false_iff, decide_eq_true_eq, decide_eq_false_iff_not, bne_iff_ne, beq_iff_eq, beq_eq_false_iff_ne, bne_eq_false_iff_eq, ne_eq, Int.not_lt, Int.not_le, Decidable.not_not] at hq)) <;> (try (have hr := hg; simp only [decide_eq_true_eq, decide_eq_false_iff_not] at hr)) <;> (try (exfalso; omega))) | ((first | refine aw_hide fun K hK => aw_region ?_ | refine ago_if (by omega) ?_ | skip); simp (disch := first | exact okY | omega) only [List.length, Nat.zero_add, Nat.reduceMul, Nat.reduceAdd, dI, ARun_none, AOpRun, aexec, FSt.ev, St.F, eget_c, Nat.reduceBEq, ↓eget_h, cond_false, isSh, Bool.false_eq_true, ↓reduceIte, Option.map, abin, AGo_ok, St.app, putO, eput_c, eput_n, hups, List.map, ARun_nil, dropE_c, inL_n, dropE_n, Int.reduceNeg, hr, decide_false]) | subst hK))
    all_goals (refine end_q [] [(96, 96), (152, 152)] ?_ ?_ <;> repeat' (first | exact trivial | exact vr_val _ | exact vr_list _ | exact vr_ptr _ _ _ rfl | refine And.intro ⟨_, rfl, _, rfl, by decide, ?_⟩ ?_ | apply And.intro))
    all_goals exact tpC_in _ _ _
set_option maxRecDepth 100000 in
set_option maxHeartbeats 2000000 in
theorem cbad_ac (l : Lay) (frs : List (List Int)) (cs : List Cd) (hl : cs.length ≤ 1000000) (hn : l.fl.length ≤ 1000) : AC Try.prog 125 [.list (cds cs), .fn 124 [] [.ptr 152 0]] [(96, tpC l frs), (152, [.ptr 96 0])] [(96, some (tpC l frs)), (152, some [.ptr 96 0])] (dB (!cs.all (cdB l))) := by
  refine kslices_ContainsFunc_L_L_Japi_Condition_Kapi_Condition_J.ac (n0 := 200) (by simp) ⟨.list _, .fn _ _ _ (by simp) (by intro d hd; simp at hd; subst hd; exact .ptr _ _ (by omega)), trivial⟩ ⟨⟨by omega, tpC_in _ _ _⟩, ⟨by omega, by intro d hd; simp at hd; subst hd; exact .ptr _ _ (by omega)⟩, trivial⟩ rfl ?_
  unfold cslices_ContainsFunc_L_L_Japi_Condition_Kapi_Condition_J
  have hf := ibad_ac l frs cs hl hn
  cases h : cs.findIdx? (fun x => !cdB l x) with
  | none =>
    have ha : cs.all (cdB l) = true := by
      rw [List.findIdx?_eq_none_iff] at h
      exact List.all_eq_true.2 fun x hx => by simpa using h x hx
    rw [h] at hf
    rw [ha]
    (repeat' (first | (with_reducible first | refine thenQ_n ?_ | refine blockQ_n ?_ | refine thenQ_e ?_ | refine blockQ_t ?_ | refine blockQ_f (by decide) ?_) | apply aw_seq | apply aw_skip | apply aw_exit | apply aw_ret | apply aw_block | apply aw_condT rfl | apply aw_condF rfl | ((first | refine aw_hide fun K hK => aw_region ?_ | refine acallB (hf) (by repeat' (first | exact trivial | exact rfl | refine And.intro ?_ ?_)) (by kernel_rfl) (by kernel_rfl) (by kernel_rfl) ?_ | refine ago_if (by omega) ?_ | skip); simp (disch := first | exact okY | omega) only [List.length, Nat.zero_add, Nat.reduceMul, Nat.reduceAdd, envOf, ARun_none, AOpRun, aexec, FSt.ev, AGo_ok, St.app, putO, eput_c, Nat.reduceBEq, eput_n, cond_false, hups, List.map, ARun_nil, dropE_c, inL_n, dropE_n, St.F, ↓eget_h, eget_c, dI, Int.reduceNeg, hput_c, beq_self_eq_true, hput_n, cond_true, List.append_nil, isSh, Bool.false_eq_true, ↓reduceIte, Option.map, abin, inL_c, dB, Bool.not_true]) | subst hK))
    all_goals (refine end_q [] [(96, 96), (152, 152)] ?_ ?_ <;> repeat' (first | exact trivial | exact vr_val _ | exact vr_list _ | exact vr_ptr _ _ _ rfl | refine And.intro ⟨_, rfl, _, rfl, by decide, ?_⟩ ?_ | apply And.intro))
    all_goals exact tpC_in _ _ _
  | some k =>
    have ha : cs.all (cdB l) = false := by
      rw [List.findIdx?_eq_some_iff_getElem] at h
      obtain ⟨hk, he, _⟩ := h
      exact List.all_eq_false.2 ⟨cs[k], List.getElem_mem hk, by simpa using he⟩
    rw [h] at hf
    rw [ha]
    have q : decide ((k : Int) ≥ 0) = true := decide_eq_true (by omega)
    (repeat' (first | (with_reducible first | refine thenQ_n ?_ | refine blockQ_n ?_ | refine thenQ_e ?_ | refine blockQ_t ?_ | refine blockQ_f (by decide) ?_) | apply aw_seq | apply aw_skip | apply aw_exit | apply aw_ret | apply aw_block | apply aw_condT rfl | apply aw_condF rfl | ((first | refine aw_hide fun K hK => aw_region ?_ | refine acallB (hf) (by repeat' (first | exact trivial | exact rfl | refine And.intro ?_ ?_)) (by kernel_rfl) (by kernel_rfl) (by kernel_rfl) ?_ | refine ago_if (by omega) ?_ | skip); simp (disch := first | exact okY | omega) only [List.length, Nat.zero_add, Nat.reduceMul, Nat.reduceAdd, envOf, ARun_none, AOpRun, aexec, FSt.ev, AGo_ok, St.app, putO, eput_c, Nat.reduceBEq, eput_n, cond_false, hups, List.map, ARun_nil, dropE_c, inL_n, dropE_n, St.F, ↓eget_h, eget_c, dI, hput_c, beq_self_eq_true, hput_n, cond_true, List.append_nil, isSh, Bool.false_eq_true, ↓reduceIte, Option.map, abin, Int.natCast_nonneg, decide_true, inL_c, dB, Bool.not_false]) | subst hK))
    all_goals (refine end_q [] [(96, 96), (152, 152)] ?_ ?_ <;> repeat' (first | exact trivial | exact vr_val _ | exact vr_list _ | exact vr_ptr _ _ _ rfl | refine And.intro ⟨_, rfl, _, rfl, by decide, ?_⟩ ?_ | apply And.intro))
    all_goals exact tpC_in _ _ _
set_option maxRecDepth 100000 in
set_option maxHeartbeats 4000000 in
theorem evalid_ac (l : Lay) (frs : List (List Int)) (cs : List Cd) (h : Int) (hl : cs.length ≤ 1000000) (hn : l.fl.length ≤ 1000) : AC Try.prog 93 [.ptr 96 0, evD cs h] [(96, tpC l frs)] [(96, some (tpC l frs))] (dB (evB l cs h)) := by
  refine kprecord_tape_valid.ac (n0 := 200) (by simp) ⟨.ptr _ _ (by omega), in_ev _ _ _, trivial⟩ ⟨⟨by omega, tpC_in _ _ _⟩, trivial⟩ rfl ?_
  unfold cprecord_tape_valid evD evB
  refine aw_seq (aw_region ?_)
  simp (disch := first | exact okY | omega) only [thenQ, List.map, dB, List.length, Nat.zero_add, Nat.reduceAdd, Nat.reduceMul, envOf, dI, ARun_none, AOpRun, aexec, D.isBot, FSt.ev, St.F, ↓eget_h, Bool.false_eq_true, Option.isSome, hget_c, Nat.reduceBEq, hget_n, cond_false, or_self, ↓reduceIte, D.cells, AGo_ok, St.app, putO, eput_c, eput_n, hups, hput_c, hput_n, eget_c, ARun_nil, dropE_c, inL_n, dropE_n]
  refine aw_wk (s' := ⟨[(2, .ptr 152 0), (3, .ptr 160 0)], [(96, tpC l frs), (152, [.ptr 96 0]), (160, [.list (cds cs), dI h])], 400⟩) ?_ ?_
  · unfold dI
    refine wk_q [] [(96, 96), (152, 200), (160, 208)] ?_ ?_ <;> repeat' (first | exact trivial | exact vr_val _ | exact vr_list _ | exact vr_ptr _ _ _ rfl | refine And.intro ⟨_, rfl, .inl ⟨_, rfl, by decide, ?_⟩⟩ ?_ | apply And.intro)
    all_goals exact tpC_in _ _ _
  have h1 := within_ac cs.length 1 4
  have h2 := cbad_ac l frs cs hl hn
  have h3 := within_ac h 1 100
  cases q1 : wI cs.length 1 4 <;> cases q2 : cs.all (cdB l) <;> cases q3 : wI h 1 100
  all_goals
    rw [q1] at h1
    rw [q2] at h2
    rw [q3] at h3
    (repeat' (first | (with_reducible first | refine thenQ_n ?_ | refine blockQ_n ?_ | refine thenQ_e ?_ | refine blockQ_t ?_ | refine blockQ_f (by decide) ?_) | apply aw_seq | apply aw_skip | apply aw_exit | apply aw_ret | apply aw_block | apply aw_condT rfl | apply aw_condF rfl | ((first | refine aw_hide fun K hK => aw_region ?_ | refine acall0 (h1) ?_ | refine acallB (h2) (by repeat' (first | exact trivial | exact rfl | refine And.intro ?_ ?_)) (by kernel_rfl) (by kernel_rfl) (by kernel_rfl) ?_ | refine acall0 (h3) ?_ | refine ago_if (by omega) ?_ | skip); simp (disch := first | exact okY | omega) only [List.length, Nat.zero_add, Nat.reduceAdd, Nat.reduceMul, dI, ARun_none, AOpRun, aexec, List.map, FSt.ev, St.F, ↓eget_h, AGo_ok, St.app, putO, eput_c, Nat.reduceBEq, eput_n, cond_false, hups, eget_c, ARun_nil, dropE_c, inL_c, inL_n, beq_self_eq_true, cond_true, dropE_n, Option.map, run1, hget_c, ↓hget_h, List.getElem?_cons_zero, cds_len, dB, ARun_some, AG_ft, Bool.false_eq_true, ↓reduceIte, Bool.and_false, Bool.and_true, AG_tt, Bool.not_false, hput_c, hput_n, List.append_nil, Bool.not_true, List.getElem?_cons_succ]) | subst hK))
    all_goals (refine end_q [] [(96, 96)] ?_ ?_ <;> repeat' (first | exact trivial | exact vr_val _ | exact vr_list _ | refine And.intro ⟨_, rfl, _, rfl, by decide, ?_⟩ ?_ | apply And.intro))
    all_goals exact tpC_in _ _ _
end Go.Proofs.Ytdcodicoclecnaa
