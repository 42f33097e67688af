/- Texts of the law TopCyclesCard, part 6. No conditions. -/
import Derived.Test.YtgibbaadjbohdaaDoorPTopCyclesCard05
set_option linter.unusedSimpArgs false
set_option linter.unusedVariables false
/- parts: the memory of a hangar that is being made. No conditions. -/
namespace Go.Proofs.YtgibbaadjbohdaaDoor
open Go Go.RowKit Lift

def newP (r : Reg) (i : Nat) (p : P0) : Prt := ⟨p.kd, p.h, p.c, p.kn, -1, -1, List.replicate r.os.length 0, List.replicate r.os.length false, [], 500000 + i⟩
def pvO : Nat → Nat
  | 0 => 1992
  | i + 1 => 2000 + 400 * i + 144
def nH (r : Reg) : Hg := ⟨r, r.ps.mapIdx (newP r), List.replicate r.os.length false, List.replicate r.ms.toNat (0, 0), 0, pvO r.ps.length⟩
def hgO (r : Reg) (i : Nat) : List D := [.list (kds r.ks), .list (p0s r.ps), dI r.ms, .list (ods r.os), .vec (pvO i) i 1, .vec 1032 r.os.length 1, .vec 1056 r.ms.toNat 2, dI 0, .vec 1088 r.ps.length 1]
def hsV (n : Nat) : List D := (List.range n).map fun k => .vec (500000 + k) 0 6
def hsO (n : Nat) : Hp := (List.range n).map fun k => (500000 + k, [])
def fa3 (i : Nat) (p : Prt) : Hp := [(pN i, ptC i p), (sN i, icells p.since), (cN i, bcl p.chk)]
def fam3 (r : Reg) (i : Nat) : Hp := (List.range i).flatMap fun j => fa3 j ((nH r).pts[j]?.getD pt0)
def hd6 (r : Reg) (i : Nat) : Hp := [(500, regC r), (1104, hgO r i), (1032, bcl (List.replicate r.os.length false)), (1056, scells (List.replicate r.ms.toNat (0, 0))), (1088, hsV r.ps.length), (pvO i, pvC i)]
def HL (r : Reg) (i : Nat) (tl : Hp) : Hp := hd6 r i ++ (hsO r.ps.length ++ (fam3 r i ++ tl))
theorem pvO_bd (i : Nat) : (i = 0 ∧ pvO i = 1992) ∨ (1 ≤ i ∧ pvO i = 1744 + 400 * i) := by
  cases i with
  | zero => exact .inl ⟨rfl, rfl⟩
  | succ k => exact .inr ⟨by omega, by show 2000 + 400 * k + 144 = _; omega⟩
theorem nH_len (r : Reg) : (nH r).pts.length = r.ps.length := by simp [nH]
theorem nH_at {r : Reg} {i : Nat} {p : P0} (h : r.ps[i]? = some p) : (nH r).pts[i]? = some (newP r i p) := by simp [nH, h]
theorem get_hsO {n j : Nat} (h : j < n) (tl : Hp) : hget (hsO n ++ tl) (500000 + j) = some [] := by
  have key : ∀ (n i : Nat), i ≤ j → j < i + n → hget (((List.range' i n).map fun k => ((500000 + k, []) : Nat × List D)) ++ tl) (500000 + j) = some [] := by
    intro n
    induction n with
    | zero => intro i h1 h2; omega
    | succ n ih =>
      intro i h1 h2
      rw [List.range'_succ]
      by_cases hij : i = j
      · subst hij; exact if_pos rfl
      · show (if 500000 + i = 500000 + j then _ else _) = _
        rw [if_neg (by omega)]
        exact ih (i + 1) (by omega) (by omega)
  have := key n 0 (by omega) (by omega)
  rw [← List.range_eq_range'] at this
  exact this
theorem hsO_no {n k : Nat} (h : k < 500000) : k ∉ (hsO n).map (·.1) := by
  simp only [hsO, List.map_map, List.mem_map, List.mem_range, Function.comp, not_exists, not_and]
  intro j _; omega
theorem hd6_no {r : Reg} {i k : Nat} (h : 1120 ≤ k) (h2 : k ≠ pvO i) : k ∉ (hd6 r i).map (·.1) := by
  simp only [hd6, List.map_cons, List.map_nil, List.mem_cons, List.not_mem_nil, or_false]
  omega
theorem fam3_mem {r : Reg} {i g : Nat} {c : List D} (h : (g, c) ∈ fam3 r i) : ∃ j, j < i ∧ (g, c) ∈ fa3 j ((nH r).pts[j]?.getD pt0) := by
  unfold fam3 at h
  obtain ⟨j, hj, hx⟩ := List.mem_flatMap.1 h
  exact ⟨j, List.mem_range.1 hj, hx⟩
theorem fam3_no {r : Reg} {i k : Nat} (h : ∀ j, j < i → k ≠ pN j ∧ k ≠ sN j ∧ k ≠ cN j) : k ∉ (fam3 r i).map (·.1) := by
  intro hk
  obtain ⟨⟨g, c⟩, hx, rfl⟩ := List.mem_map.1 hk
  obtain ⟨j, hj, hm⟩ := fam3_mem hx
  have := h j hj
  simp only [fa3, List.mem_cons, List.not_mem_nil, or_false, Prod.mk.injEq] at hm
  omega
theorem get_fam3 {r : Reg} {i j : Nat} (hj : j < i) {k : Nat} (hk : k = pN j ∨ k = sN j ∨ k = cN j) (tl : Hp) : hget (fam3 r i ++ tl) k = hget (fa3 j ((nH r).pts[j]?.getD pt0)) k := by
  have e : List.range i = List.range j ++ (j :: (List.range' (j + 1) (i - j - 1))) := by
    rw [List.range_eq_range', List.range_eq_range']
    have h1 := List.range'_append (s := 0) (m := j) (n := i - j) (step := 1)
    rw [show j + (i - j) = i by omega] at h1
    rw [← h1, show i - j = (i - j - 1) + 1 by omega, List.range'_succ]
    simp
  have h0 : k ∉ ((List.range j).flatMap fun j => fa3 j ((nH r).pts[j]?.getD pt0)).map (·.1) := by
    refine fam3_no (r := r) (i := j) fun m hm => ?_
    unfold pN sN cN at *
    omega
  unfold fam3
  rw [e, List.flatMap_append, List.append_assoc, hget_app h0, List.flatMap_cons, List.append_assoc]
  have : ∃ c, hget (fa3 j ((nH r).pts[j]?.getD pt0)) k = some c := by
    rcases hk with rfl | rfl | rfl
    · exact ⟨_, if_pos rfl⟩
    · refine ⟨icells ((nH r).pts[j]?.getD pt0).since, ?_⟩
      unfold fa3
      rw [hget_skip (by unfold pN sN; omega)]; exact if_pos rfl
    · refine ⟨bcl ((nH r).pts[j]?.getD pt0).chk, ?_⟩
      unfold fa3
      rw [hget_skip (by unfold pN cN; omega), hget_skip (by unfold sN cN; omega)]; exact if_pos rfl
  obtain ⟨c, hc⟩ := this
  rw [hget_left hc, hc]
section
variable (r : Reg) (i : Nat) (tl : Hp)
theorem HL_500 : hget (HL r i tl) 500 = some (regC r) := rfl
theorem HL_1104 : hget (HL r i tl) 1104 = some (hgO r i) := rfl
theorem HL_1032 : hget (HL r i tl) 1032 = some (bcl (List.replicate r.os.length false)) := rfl
theorem HL_1056 : hget (HL r i tl) 1056 = some (scells (List.replicate r.ms.toNat (0, 0))) := rfl
theorem HL_1088 : hget (HL r i tl) 1088 = some (hsV r.ps.length) := rfl
theorem HL_pv : hget (HL r i tl) (pvO i) = some (pvC i) := by
  have := pvO_bd i
  unfold HL hd6
  simp only [List.cons_append, List.nil_append]
  rw [hget_skip (by omega), hget_skip (by omega), hget_skip (by omega), hget_skip (by omega), hget_skip (by omega), hget_head]
end
section
variable {r : Reg} {i : Nat} (hi : i ≤ 24) (tl : Hp)
include hi
theorem HL_hs {j : Nat} (hj : j < r.ps.length) : hget (HL r i tl) (500000 + j) = some [] := by
  have := pvO_bd i
  unfold HL
  rw [hget_app (hd6_no (by omega) (by omega))]
  exact get_hsO hj _
theorem HL_fam {j : Nat} (hj : j < i) {k : Nat} (hk : k = pN j ∨ k = sN j ∨ k = cN j) : hget (HL r i tl) k = hget (fa3 j ((nH r).pts[j]?.getD pt0)) k := by
  have := pvO_bd i
  unfold HL
  rw [hget_app (hd6_no (by unfold pN sN cN at hk; omega) (by unfold pN sN cN at hk; omega)), hget_app (hsO_no (by unfold pN sN cN at hk; omega))]
  exact get_fam3 hj hk tl
theorem HL_no {k : Nat} (h1 : 1960 + 400 * i ≤ k) (h2 : k ≠ 1992) (h3 : k < 500000) : k ∉ (hd6 r i).map (·.1) ∧ k ∉ (hsO r.ps.length).map (·.1) ∧ k ∉ (fam3 r i).map (·.1) := by
  have := pvO_bd i
  exact ⟨hd6_no (by omega) (by omega), hsO_no h3, fam3_no fun j hj => by unfold pN sN cN; omega⟩
theorem HL_get {k : Nat} (h1 : 1960 + 400 * i ≤ k) (h2 : k ≠ 1992) (h3 : k < 500000) : hget (HL r i tl) k = hget tl k := by
  obtain ⟨a, b, c⟩ := HL_no (r := r) hi h1 h2 h3
  unfold HL
  rw [hget_app a, hget_app b, hget_app c]
theorem HL_put {k : Nat} (h1 : 1960 + 400 * i ≤ k) (h2 : k ≠ 1992) (h3 : k < 500000) (c : List D) : hput (HL r i tl) k c = HL r i (hput tl k c) := by
  obtain ⟨a, b, d⟩ := HL_no (r := r) hi h1 h2 h3
  unfold HL
  rw [hput_app a, hput_app b, hput_app d]
theorem HL_cases {g : Nat} {c : List D} (h : hget (HL r i []) g = some c) : (g = 500 ∧ c = regC r) ∨ (g = 1104 ∧ c = hgO r i) ∨ (g = 1032 ∧ c = bcl (List.replicate r.os.length false)) ∨ (g = 1056 ∧ c = scells (List.replicate r.ms.toNat (0, 0))) ∨ (g = 1088 ∧ c = hsV r.ps.length) ∨ (g = pvO i ∧ c = pvC i) ∨
    (∃ j, j < r.ps.length ∧ g = 500000 + j ∧ c = []) ∨ ∃ j, j < i ∧ (g, c) ∈ fa3 j ((nH r).pts[j]?.getD pt0) := by
  have _ := hi
  have hm := hget_mem h
  unfold HL at hm
  rw [List.append_nil, List.mem_append, List.mem_append] at hm
  rcases hm with hm | hm | hm
  · simp only [hd6, List.mem_cons, List.not_mem_nil, or_false, Prod.mk.injEq] at hm
    rcases hm with h1 | h1 | h1 | h1 | h1 | h1
    · exact .inl h1
    · exact .inr (.inl h1)
    · exact .inr (.inr (.inl h1))
    · exact .inr (.inr (.inr (.inl h1)))
    · exact .inr (.inr (.inr (.inr (.inl h1))))
    · exact .inr (.inr (.inr (.inr (.inr (.inl h1)))))
  · simp only [hsO, List.mem_map, List.mem_range, Prod.mk.injEq] at hm
    obtain ⟨j, hj, h1, h2⟩ := hm
    exact .inr (.inr (.inr (.inr (.inr (.inr (.inl ⟨j, hj, h1.symm, h2.symm⟩))))))
  · exact .inr (.inr (.inr (.inr (.inr (.inr (.inr (fam3_mem hm)))))))
end
theorem fa3_get {i : Nat} {p : Prt} {g : Nat} {c : List D} (h : (g, c) ∈ fa3 i p) : (g = pN i ∨ g = sN i ∨ g = cN i) ∧ hget (fa3 i p) g = some c := by
  simp only [fa3, List.mem_cons, List.not_mem_nil, or_false, Prod.mk.injEq] at h
  rcases h with ⟨rfl, rfl⟩ | ⟨rfl, rfl⟩ | ⟨rfl, rfl⟩
  · exact ⟨.inl rfl, if_pos rfl⟩
  · refine ⟨.inr (.inl rfl), ?_⟩
    unfold fa3
    rw [hget_skip (by unfold pN sN; omega)]; exact if_pos rfl
  · refine ⟨.inr (.inr rfl), ?_⟩
    unfold fa3
    rw [hget_skip (by unfold pN cN; omega), hget_skip (by unfold sN cN; omega)]; exact if_pos rfl
theorem HL_next {r : Reg} {i : Nat} (hn : r.ps.length ≤ 24) (hi : i < r.ps.length) {tl : Hp} (h1 : ∀ g c, (g, c) ∈ fa3 i ((nH r).pts[i]?.getD pt0) → hget tl g = some c) (h2 : hget tl (2000 + 400 * i + 144) = some (pvC (i + 1))) {g : Nat} {c : List D} (h : hget (HL r (i + 1) []) g = some c) :
    hget (hput (hdel (HL r i tl) (pvO i)) 1104 (hgO r (i + 1))) g = some c := by
  have hp := pvO_bd i
  have skip : ∀ {g : Nat} {c : List D}, 1104 ≠ g → pvO i ≠ g → hget (HL r i tl) g = some c → hget (hput (hdel (HL r i tl) (pvO i)) 1104 (hgO r (i + 1))) g = some c := fun h1 h2 h3 => by
    rw [hget_hput, if_neg h1, hget_hdel, if_neg h2]; exact h3
  rcases HL_cases (i := i + 1) (by omega) h with ⟨rfl, rfl⟩ | ⟨rfl, rfl⟩ | ⟨rfl, rfl⟩ | ⟨rfl, rfl⟩ | ⟨rfl, rfl⟩ | ⟨rfl, rfl⟩ | ⟨j, hj, rfl, rfl⟩ | ⟨j, hj, hm⟩
  · exact skip (by omega) (by omega) (HL_500 r i tl)
  · rw [hget_hput, if_pos rfl]
  · exact skip (by omega) (by omega) (HL_1032 r i tl)
  · exact skip (by omega) (by omega) (HL_1056 r i tl)
  · exact skip (by omega) (by omega) (HL_1088 r i tl)
  · have e : pvO (i + 1) = 2000 + 400 * i + 144 := rfl
    rw [e]
    refine skip (by omega) (by omega) ?_
    rw [HL_get (by omega) tl (by omega) (by omega) (by omega)]; exact h2
  · exact skip (by omega) (by omega) (HL_hs (by omega) tl hj)
  · obtain ⟨hk, hg⟩ := fa3_get hm
    by_cases hji : j < i
    · refine skip (by unfold pN sN cN at hk; omega) (by unfold pN sN cN at hk; omega) ?_
      rw [HL_fam (by omega) tl hji hk]; exact hg
    · obtain rfl : j = i := by omega
      refine skip (by unfold pN sN cN at hk; omega) (by unfold pN sN cN at hk; omega) ?_
      rw [HL_get (by omega) tl (by unfold pN sN cN at hk; omega) (by unfold pN sN cN at hk; omega) (by unfold pN sN cN at hk; omega)]
      exact h1 _ _ hm
theorem HL_end {r : Reg} (hn : r.ps.length ≤ 24) {g : Nat} {c : List D} (h : hget (HF (nH r) []) g = some c) : hget (HL r r.ps.length []) g = some c := by
  rcases HF_cases h with ⟨rfl, rfl⟩ | ⟨rfl, rfl⟩ | ⟨rfl, rfl⟩ | ⟨rfl, rfl⟩ | ⟨rfl, rfl⟩ | ⟨j, p, hp, h⟩
  · rw [HL_1104]
    unfold hgO hgrC
    rw [nH_len]
    simp [nH]
  · rw [HL_1032]; rfl
  · rw [HL_1056]; rfl
  · rw [HL_1088]
    unfold hsC hsV
    congr 1
    apply List.ext_getElem
    · simp [nH]
    · intro k h1 h2
      simp [nH, newP]
  · rw [nH_len]; exact HL_pv r r.ps.length []
  · have hj := idx_lt hp
    rw [nH_len] at hj
    have e : (nH r).pts[j]?.getD pt0 = p := by rw [hp]; rfl
    have fam : ∀ g c, (g, c) ∈ fa3 j p → hget (HL r r.ps.length []) g = some c := fun g c hm => by
      obtain ⟨hk, hg⟩ := fa3_get hm
      rw [HL_fam hn [] hj hk, e]; exact hg
    rcases h with ⟨rfl, rfl⟩ | ⟨rfl, rfl⟩ | ⟨rfl, rfl⟩ | ⟨rfl, rfl⟩
    · exact fam _ _ (by simp [fa3])
    · exact fam _ _ (by simp [fa3])
    · exact fam _ _ (by simp [fa3])
    · obtain ⟨q, hq⟩ := nthI hj
      rw [nH_at hq] at hp
      cases hp
      exact HL_hs hn [] hj
theorem nH_N {r : Reg} (hn : r.ps.length ≤ 24) : HgN (nH r) 600000 := by
  have key : ∀ (i : Nat) (p : Prt), (nH r).pts[i]? = some p → i < r.ps.length ∧ p.hn = 500000 + i := fun i p hp => by
    have hj := idx_lt hp
    rw [nH_len] at hj
    obtain ⟨q, hq⟩ := nthI hj
    rw [nH_at hq] at hp
    cases hp
    exact ⟨hj, rfl⟩
  refine ⟨by rw [nH_len]; exact hn, fun p hp => ?_, fun i j p q hp hq e => ?_, ?_, by omega⟩
  · obtain ⟨i, hi, rfl⟩ := List.getElem_of_mem hp
    have := key i _ (List.getElem?_eq_getElem hi)
    omega
  · have h1 := key i p hp
    have h2 := key j q hq
    omega
  · show pvO r.ps.length = 1992 ∨ _
    rcases pvO_bd r.ps.length with h | ⟨h1, h2⟩
    · exact .inl h.2
    · exact .inr ⟨r.ps.length - 1, by omega, by show pvO r.ps.length = _; omega⟩
theorem wk_new {pre : List Nat} {s s' : St} (hE : VwE (hget s.hp) [] s.env s'.env) (hH : ∀ g c', hget s'.hp g = some c' → (∃ c, hget s.hp g = some c ∧ VwL (hget s.hp) [] c c') ∨ (c' = [] ∧ hget s.hp g = none ∧ s.nx ≤ g)) (hn : s.nx ≤ s'.nx) : Wk pre s s' := by
  rintro C a w rfl ⟨β, Z, h, hβ⟩
  have hobj : ∀ g c, g ∈ ([] : List Nat) → hget s.hp g = some c → Holds w β Z g c := fun g c hg _ => by simp at hg
  have hz : (fun b => Z b ∧ ¬ ∃ g ∈ ([] : List Nat), β g = some b) = Z := by funext b; simp
  refine ⟨β, Z, ⟨h.size, h.defers, fun t => ?_, fun g c' hc' => ?_, fun g g' c c' B hc hc' hb hb' => ?_, h.fr, h.z0, h.old, fun g c' B hc' hB => ?_, h.ext, h.zlt⟩, fun g hg => hβ g (by omega)⟩
  · show Rep w β Z _ (eget s'.env t)
    rcases hE.get t with h1 | h1
    · rw [h1]; exact .bot _
    · have := h1.rep (h.env t) hobj
      rw [hz] at this
      exact this
  · rcases hH g c' hc' with ⟨c, hc, hl⟩ | ⟨rfl, hnone, hge⟩
    · obtain ⟨h1, h2⟩ := hl.get
      rcases h.objs g c hc with ⟨h3, h4⟩ | ⟨B, cs, e, hO⟩
      · subst h3
        have : c' = [] := List.length_eq_zero_iff.1 (by simpa using h1.symm)
        exact .inl ⟨this, h4⟩
      · refine .inr ⟨B, cs, e, hO.at_, hO.ours, hO.block, by have := hO.fits; omega, fun i hi => ?_⟩
        have := (h2 i (by omega) hi).rep (hO.rep i (by omega)) hobj
        rw [hz] at this
        exact this
    · exact .inl ⟨rfl, hβ g hge⟩
  · have live : ∀ g c, hget s'.hp g = some c → ∀ B, β g = some B → ∃ c0, hget s.hp g = some c0 := fun g c hc B hb => by
      rcases hH g c hc with ⟨c, hc, _⟩ | ⟨_, _, hge⟩
      · exact ⟨c, hc⟩
      · rw [hβ g hge] at hb; cases hb
    obtain ⟨c1, h1⟩ := live g c hc B hb
    obtain ⟨c2, h2⟩ := live g' c' hc' B hb'
    exact h.inj g g' c1 c2 B h1 h2 hb hb'
  · rcases hH g c' hc' with ⟨c, hc, _⟩ | ⟨_, _, hge⟩
    · exact h.orig g c B hc hB
    · rw [hβ g hge] at hB; cases hB
end Go.Proofs.YtgibbaadjbohdaaDoor
/- parts: newHangar (views last; symbolic names). No conditions. -/
namespace Go.Proofs.YtgibbaadjbohdaaDoor
open Go Go.RowKit Lift

theorem rep_b (n : Nat) : (List.replicate n [D.val (.bool false)]).flatten = bcl (List.replicate n false) := by
  induction n with
  | zero => rfl
  | succ n ih => rw [List.replicate_succ, List.flatten_cons, ih, List.replicate_succ]; rfl
theorem repI (n : Nat) : (List.replicate n [D.val (.int .i64 0)]).flatten = icells (List.replicate n 0) := by
  induction n with
  | zero => rfl
  | succ n ih => rw [List.replicate_succ, List.flatten_cons, ih, List.replicate_succ]; rfl
theorem rep_s (n : Nat) : (List.replicate n [D.val (.int .i64 0), D.val (.int .i64 0)]).flatten = scells (List.replicate n (0, 0)) := by
  induction n with
  | zero => rfl
  | succ n ih => rw [List.replicate_succ, List.flatten_cons, ih, List.replicate_succ]; rfl
def nils (n : Nat) : List D := List.replicate n (.val (.slice none 0 0))
theorem rep_n (n : Nat) : (List.replicate n [D.val (.slice none 0 0)]).flatten = nils n := by
  unfold nils
  induction n with
  | zero => rfl
  | succ n ih => rw [List.replicate_succ, List.flatten_cons, ih, List.replicate_succ]; rfl
theorem nils_vw {H : Heap} (n : Nat) : VwL H [] (nils n) (hsV n) := by
  refine VwL.of (by simp [nils, hsV]) fun i a b ha hb => ?_
  have h1 : a ∈ nils n := List.mem_of_getElem? ha
  have h2 : b ∈ hsV n := List.mem_of_getElem? hb
  rw [List.eq_of_mem_replicate h1]
  obtain ⟨k, _, rfl⟩ := List.mem_map.1 h2
  exact .nilv _ _
theorem pvC_snoc (i : Nat) : pvC i ++ [.ptr (pN i) 0] = pvC (i + 1) := by simp [pvC, List.range_succ]
set_option maxRecDepth 100000 in
set_option maxHeartbeats 8000000 in
theorem newHangar_in {pin : List Nat} (r : Reg) (h1 : 0 ≤ r.ms) (h2 : r.ms ≤ 4) (h3 : r.ps.length ≤ 24) (h4 : r.os.length ≤ 6) :
    AWb false Tryd.prog 50 pin cparts_newHangar (fun e s' => (e = .norm ∨ e = .ret) ∧ Wk pin s' ⟨[(2, .ptr 1104 0)], HF (nH r) [], 600000⟩) ⟨envOf 0 [regD r], [], 500⟩ := by
  unfold cparts_newHangar regD
  (iterate 3 (try (first | apply aw_seq | ((first | apply aw_skip | apply aw_exit); with_reducible repeat' (first | refine thenQ_n ?_ | refine blockQ_n ?_ | refine thenQ_e ?_ | refine blockQ_t ?_ | refine blockQ_f (by decide) ?_)) | apply aw_ret | apply aw_block | apply aw_condT rfl | apply aw_condF rfl | ((first | refine aw_hide fun K hK => aw_region ?_ | refine ago_if (by omega) ?_ | skip); simp (disch := first | omega | (simp [okLog] <;> omega)) only [ZU, Nat.reduceAdd, Nat.reduceMul, AOpRun, aexec, D.isBot, ↓eget_h, or_self, ↓reduceIte, D.cells, Nat.reduceBEq]) | (subst hK; with_reducible repeat' (first | refine thenQ_n ?_ | refine blockQ_n ?_ | refine thenQ_e ?_ | refine blockQ_t ?_ | refine blockQ_f (by decide) ?_)))))
  refine aw_wk (s' := ⟨[(1, .ptr 500 0)], [(500, regC r)], 1000⟩) (by ((first | refine ⟨.inr rfl, ?_⟩ | refine ⟨.inl rfl, ?_⟩ | skip) <;> exact wk_env (by repeat' (first | exact trivial | exact rfl | refine And.intro ?_ ?_)) (by first | exact fun _ _ h => h | exact fun _ _ h => HF_tl h) (by simp only; omega))) ?_
  unfold regC
  have t1 : ((r.os.length : Int)).toNat = r.os.length := by omega
  have t2 : ((r.ps.length : Int)).toNat = r.ps.length := by omega
  (repeat' (first | (with_reducible first | refine thenQ_n ?_ | refine blockQ_n ?_ | refine thenQ_e ?_ | refine blockQ_t ?_ | refine blockQ_f (by decide) ?_) | apply aw_seq | apply aw_skip | apply aw_exit | apply aw_ret | apply aw_block | apply aw_condT rfl | apply aw_condF rfl | ((first | refine aw_hide fun K hK => aw_region ?_ | refine ago_if (by omega) ?_ | skip); simp (disch := first | omega | (simp [okLog] <;> omega)) only [ZU, Nat.reduceAdd, Nat.reduceMul, dI, AOpRun, aexec, ↓eget_h, Nat.reduceLeDiff, ↓reduceIte, List.drop, List.take, Nat.reduceBEq, run1, ods_len, cast_lit, and_true, true_and, t1, rep_b, rep_s, p0s_len, t2, rep_n, fillD, D.isBot, D.cells, ne_eq, not_true_eq_false, Nat.reduceGT, or_self, splice]) | subst hK))
  refine aw_loop (fun i : Nat => ⟨[(1, .ptr 500 0), (3, .ptr 1104 0), (21, .list (p0s r.ps)), (22, dI r.ps.length), (23, dI i)], HL r i [], 1960 + 400 * i⟩) (fun i => i ≤ r.ps.length) (fun i => r.ps.length - i) ⟨0, by omega, ?_⟩ ?_
  · refine wk_new ⟨.refl _, .refl _, .refl _, .refl _, .refl _, trivial⟩ (fun g c h => ?_) (by simp only; omega)
    rcases HL_cases (by omega) h with ⟨rfl, rfl⟩ | ⟨rfl, rfl⟩ | ⟨rfl, rfl⟩ | ⟨rfl, rfl⟩ | ⟨rfl, rfl⟩ | ⟨rfl, rfl⟩ | ⟨j, hj, rfl, rfl⟩ | ⟨j, hj, hm⟩
    · exact .inl ⟨_, rfl, VwL.refl _⟩
    · exact .inl ⟨_, rfl, .refl _, .refl _, .refl _, .refl _, .nilv _ _, .refl _, .refl _, .refl _, .refl _, trivial⟩
    · exact .inl ⟨_, rfl, VwL.refl _⟩
    · exact .inl ⟨_, rfl, VwL.refl _⟩
    · exact .inl ⟨_, rfl, nils_vw _⟩
    · exact .inr ⟨rfl, rfl, by show _ ≤ 1992; simp only; omega⟩
    · refine .inr ⟨rfl, ?_, by simp only; omega⟩
      simp only
      repeat rw [hget_skip (by omega)]
      rfl
    · omega
  intro i hi1
  by_cases hi2 : i < r.ps.length
  case neg =>
    obtain rfl : i = r.ps.length := by omega
    (repeat' (first | (with_reducible first | refine thenQ_n ?_ | refine blockQ_n ?_ | refine thenQ_e ?_ | refine blockQ_t ?_ | refine blockQ_f (by decide) ?_) | apply aw_seq | apply aw_skip | apply aw_exit | apply aw_ret | apply aw_block | apply aw_condT rfl | apply aw_condF rfl | ((first | refine aw_hide fun K hK => aw_region ?_ | refine ago_if (by omega) ?_ | skip); simp (disch := first | omega | (simp [okLog] <;> omega)) only [ZU, Nat.reduceMul, dI, AOpRun, aexec, Nat.reduceBEq, ↓eget_h, isSh, ↓reduceIte, abin, Int.lt_irrefl, decide_false, Nat.reduceAdd, reduceCtorEq, or_true, true_and]) | subst hK))
    all_goals (first | refine ⟨.inr rfl, ?_⟩ | skip) <;> exact wk_env ⟨rfl, trivial⟩ (fun g c h => HL_end h3 h) (by simp only; omega)
  obtain ⟨p, hx⟩ := nthI hi2
  have g1 := p0s_nth r.ps i p hx
  have ga := p0s_all r.ps
  unfold p0C dI dB at g1
  have il : (i : Int) < (r.ps.length : Int) := by omega
  have gc := HL_1104 r i
  have gb := HL_500 r i
  have gp := HL_pv r i
  have go := fun tl k h1 h2 h3 => HL_get (r := r) (i := i) (by omega) tl (k := k) h1 h2 h3
  have po := fun tl k h1 h2 h3 => HL_put (r := r) (i := i) (by omega) tl (k := k) h1 h2 h3
  have hpv := pvO_bd i
  have gd : ∀ tl, hget (hdel (HL r i tl) (pvO i)) 1104 = some (hgO r i) := fun tl => by rw [hget_hdel, if_neg (by omega)]; exact HL_1104 r i tl
  have hnx := fun tl => HL_next (r := r) (i := i) h3 hi2 (tl := tl)
  have enp : (nH r).pts[i]?.getD pt0 = newP r i p := by rw [nH_at hx]; rfl
  rw [enp] at hnx
  unfold hgO dI at gc gd
  unfold regC dI at gb
  have tk : (pvC i).take i = pvC i := List.take_of_length_le (by simp [pvC])
  have sn := pvC_snoc i
  have hle : i ≤ (pvC i).length := by simp [pvC]
  have k1 : ((i + 1) * 2 * 8 : Nat) ≤ 2 ^ 48 := by omega
  have k2 : (i + 1 : Nat) < 2 ^ 62 := by omega
  generalize pvO i = g at *
  have nA : ∀ k y, 1960 + 400 * i + 8 + k ≠ y → (1960 + 400 * i + 8 + k == y) = false := fun k y h => beq_eq_false_iff_ne.mpr h
  have nB : ∀ k y, 1960 + 400 * i + 8 + 32 + k ≠ y → (1960 + 400 * i + 8 + 32 + k == y) = false := fun k y h => beq_eq_false_iff_ne.mpr h
  have nG : ∀ y, g ≠ y → (g == y) = false := fun y h => beq_eq_false_iff_ne.mpr h
  have m1 : ((r.os.length : Nat) : Int) * 8 ≤ 2 ^ 48 := by omega
  have m2 : ((r.os.length : Nat) : Int) * 1 ≤ 2 ^ 48 := by omega
  have m3 : ((r.os.length : Nat) : Int) < 2 ^ 62 := by omega
  (repeat' (first | (with_reducible first | refine thenQ_n ?_ | refine blockQ_n ?_ | refine thenQ_e ?_ | refine blockQ_t ?_ | refine blockQ_f (by decide) ?_) | apply aw_seq | apply aw_skip | apply aw_exit | apply aw_ret | apply aw_block | apply aw_condT rfl | apply aw_condF rfl | ((first | refine aw_hide fun K hK => aw_region ?_ | skip); simp (disch := first | omega | (simp [okLog] <;> omega)) only [ZU, Nat.mul_one, dI, AOpRun, aexec, Nat.reduceBEq, ↓eget_h, isSh, ↓reduceIte, abin, il, Nat.reduceAdd, Nat.reduceMul, ga, opt1, g1, Nat.reduceLeDiff, List.take, go, po, ↓hget_h, D.isBot, D.cells, List.all, D.leaf, splice, List.drop, run1, gc, Nat.add_zero, GL, Int.reduceNeg, gb, ods_len, cast_lit, m1, m3, nA, t1, repI, m2, nB, rep_b, fillD, ne_eq, not_true_eq_false, Nat.reduceGT, or_self, base, gp, hle, tk, elems, k1, k2, ups, gd, fits]) | subst hK))
  refine ⟨i + 1, by omega, by omega, ?_⟩
  rw [show 1960 + 400 * i + 8 + 32 = 2000 + 400 * i by omega]
  refine wk_env ⟨rfl, rfl, rfl, rfl, rfl, trivial⟩ (fun g' c h => hnx _ (fun g c hm => ?_) ?_ h) (by simp only; omega)
  · simp only [fa3, List.mem_cons, List.not_mem_nil, or_false, Prod.mk.injEq] at hm
    rcases hm with ⟨rfl, rfl⟩ | ⟨rfl, rfl⟩ | ⟨rfl, rfl⟩
    · unfold pN
      rw [hget_skip (by omega), hget_skip (by omega), hget_skip (by omega), hget_head]
      unfold ptC newP
      simp only [List.length_replicate]
      rfl
    · unfold sN
      rw [hget_skip (by omega), hget_head]; rfl
    · unfold cN
      rw [hget_skip (by omega), hget_skip (by omega), hget_head]; rfl
  · rw [hget_skip (by omega), hget_skip (by omega), hget_skip (by omega), hget_skip (by omega), hget_skip (by omega), hget_head, ← sn]; rfl
end Go.Proofs.YtgibbaadjbohdaaDoor
/- parts: what a register must be (2). No conditions. -/
namespace Go.Proofs.YtgibbaadjbohdaaDoor
open Go Go.RowKit Lift

theorem in_regD (S : Nat → Prop) (r : Reg) : In S (regD r) := .agg _ (by intro d hd; simp [regC] at hd; rcases hd with rfl | rfl | rfl | rfl <;> first | exact .val _ | exact .list _)
set_option maxRecDepth 100000 in
set_option maxHeartbeats 4000000 in
theorem pvalid_ac (r : Reg) : AC Tryd.prog 29 [regD r] [] [] (dB (validB r)) := by
  refine kparts_valid.ac (n0 := 0) (by simp) ⟨in_regD _ _, trivial⟩ trivial rfl ?_
  unfold cparts_valid validB
  have cm := pwithin_ac r.ms 0 4
  generalize wI r.ms 0 4 = b4 at *
  cases q1 : decide ((r.ks.length : Int) > 6)
  case true =>
    unfold regD regC at *
    cases b4
    all_goals
      (repeat' (first | (with_reducible first | refine thenQ_n ?_ | refine blockQ_n ?_ | refine thenQ_e ?_ | refine blockQ_t ?_ | refine blockQ_f (by decide) ?_) | apply aw_seq | apply aw_skip | apply aw_exit | apply aw_ret | apply aw_block | apply aw_condT rfl | apply aw_condF rfl | ((first | refine aw_hide fun K hK => aw_region ?_ | refine acall0 (cm) ?_ | refine ago_if (by omega) ?_ | skip); simp (disch := first | exact okY | omega) only [ZU, Nat.reduceAdd, Nat.reduceMul, dI, AOpRun, aexec, D.isBot, ↓eget_h, or_self, ↓reduceIte, D.cells, Nat.reduceBEq, run1, kds_len, isSh, abin, q1, ARun_some, AG_tf, dB, Bool.true_or, Bool.or_true, Bool.false_and, Bool.or_false]) | subst hK))
      all_goals (refine end_q [] [] ?_ ?_ <;> repeat' (first | exact trivial | exact vr_val _))
  cases q2 : decide ((r.ps.length : Int) > 24)
  case true =>
    unfold regD regC at *
    cases b4
    all_goals
      (repeat' (first | (with_reducible first | refine thenQ_n ?_ | refine blockQ_n ?_ | refine thenQ_e ?_ | refine blockQ_t ?_ | refine blockQ_f (by decide) ?_) | apply aw_seq | apply aw_skip | apply aw_exit | apply aw_ret | apply aw_block | apply aw_condT rfl | apply aw_condF rfl | ((first | refine aw_hide fun K hK => aw_region ?_ | refine acall0 (cm) ?_ | refine ago_if (by omega) ?_ | skip); simp (disch := first | exact okY | omega) only [ZU, Nat.reduceAdd, Nat.reduceMul, dI, AOpRun, aexec, D.isBot, ↓eget_h, or_self, ↓reduceIte, D.cells, Nat.reduceBEq, run1, kds_len, isSh, abin, q1, ARun_some, AG_ff, p0s_len, q2, AG_tf, dB, Bool.or_true, Bool.true_or, Bool.false_and, Bool.or_false]) | subst hK))
      all_goals (refine end_q [] [] ?_ ?_ <;> repeat' (first | exact trivial | exact vr_val _))
  cases q3 : decide ((r.os.length : Int) > 6)
  case true =>
    unfold regD regC at *
    cases b4
    all_goals
      (repeat' (first | (with_reducible first | refine thenQ_n ?_ | refine blockQ_n ?_ | refine thenQ_e ?_ | refine blockQ_t ?_ | refine blockQ_f (by decide) ?_) | apply aw_seq | apply aw_skip | apply aw_exit | apply aw_ret | apply aw_block | apply aw_condT rfl | apply aw_condF rfl | ((first | refine aw_hide fun K hK => aw_region ?_ | refine acall0 (cm) ?_ | refine ago_if (by omega) ?_ | skip); simp (disch := first | exact okY | omega) only [ZU, Nat.reduceAdd, Nat.reduceMul, dI, AOpRun, aexec, D.isBot, ↓eget_h, or_self, ↓reduceIte, D.cells, Nat.reduceBEq, run1, kds_len, isSh, abin, q1, ARun_some, AG_ff, p0s_len, q2, ods_len, q3, AG_tf, dB, Bool.or_false, Bool.or_true, Bool.false_and]) | subst hK))
      all_goals (refine end_q [] [] ?_ ?_ <;> repeat' (first | exact trivial | exact vr_val _))
  cases b4
  case false =>
    unfold regD regC at *
    (repeat' (first | (with_reducible first | refine thenQ_n ?_ | refine blockQ_n ?_ | refine thenQ_e ?_ | refine blockQ_t ?_ | refine blockQ_f (by decide) ?_) | apply aw_seq | apply aw_skip | apply aw_exit | apply aw_ret | apply aw_block | apply aw_condT rfl | apply aw_condF rfl | ((first | refine aw_hide fun K hK => aw_region ?_ | refine acall0 (cm) ?_ | refine ago_if (by omega) ?_ | skip); simp (disch := first | exact okY | omega) only [ZU, Nat.reduceAdd, Nat.reduceMul, dI, AOpRun, aexec, D.isBot, ↓eget_h, or_self, ↓reduceIte, D.cells, Nat.reduceBEq, run1, kds_len, isSh, abin, q1, ARun_some, AG_ff, p0s_len, q2, ods_len, q3, dB, Bool.or_false, Bool.or_true, Bool.false_and]) | subst hK))
    all_goals (refine end_q [] [] ?_ ?_ <;> repeat' (first | exact trivial | exact vr_val _))
  have c1 := cfKind_ac _ _ pv2_ac r.ks (by simp at q1; omega)
  have c2 := cfPart_ac _ _ _ (pv3_ac r) r.ps (by simp at q2; omega)
  have c3 := cfOrder_ac _ _ _ (pv4_ac r) r.os (by simp at q3; omega)
  unfold regD
  generalize (r.ks.any fun k => !kdB k) = b1 at *
  generalize (r.ps.any fun k => !p0B r k) = b2 at *
  generalize (r.os.any fun k => !odB r k) = b3 at *
  unfold regC at *
  cases b1 <;> cases b2 <;> cases b3
  all_goals
    (repeat' (first | (with_reducible first | refine thenQ_n ?_ | refine blockQ_n ?_ | refine thenQ_e ?_ | refine blockQ_t ?_ | refine blockQ_f (by decide) ?_) | apply aw_seq | apply aw_skip | apply aw_exit | apply aw_ret | apply aw_block | apply aw_condT rfl | apply aw_condF rfl | ((first | refine aw_hide fun K hK => aw_region ?_ | refine acall0 (cm) ?_ | refine acall0 (c1) ?_ | refine acall (c2) [0, 200] ⟨.refl _, vw_fn1 (vw_obj (c := [.fn 40 [] [.ptr 0 0]]) (by simp) rfl ⟨vw_fn1 (vw_obj (by simp) rfl (VwL.refl _) rfl), trivial⟩ rfl), trivial⟩ (.inr (.val _)) (by simp only [List.mem_cons, List.not_mem_nil, or_false, forall_eq_or_imp, forall_eq]; first | exact ⟨_, rfl⟩ | exact ⟨⟨_, rfl⟩, ⟨_, rfl⟩⟩) (by kernel_rfl) ?_ | refine acall (c3) [0, 200] ⟨.refl _, vw_fn1 (vw_obj (c := [.fn 40 [] [.ptr 0 0]]) (by simp) rfl ⟨vw_fn1 (vw_obj (by simp) rfl (VwL.refl _) rfl), trivial⟩ rfl), trivial⟩ (.inr (.val _)) (by simp only [List.mem_cons, List.not_mem_nil, or_false, forall_eq_or_imp, forall_eq]; first | exact ⟨_, rfl⟩ | exact ⟨⟨_, rfl⟩, ⟨_, rfl⟩⟩) (by kernel_rfl) ?_ | refine ago_if (by omega) ?_ | skip); simp (disch := first | exact okY | omega) only [ZU, Nat.reduceAdd, Nat.reduceMul, dI, AOpRun, aexec, D.isBot, ↓eget_h, or_self, ↓reduceIte, D.cells, Nat.reduceBEq, run1, kds_len, isSh, abin, q1, ARun_some, AG_ff, p0s_len, q2, ods_len, q3, dB, ↓hget_h, Nat.reduceLeDiff, List.all, D.leaf, splice, List.take, List.drop, AG_tt, Bool.or_false, Bool.and_false, AG_ft]) | subst hK))
    all_goals (refine end_q [] [] ?_ ?_ <;> repeat' (first | exact trivial | exact vr_val _))
end Go.Proofs.YtgibbaadjbohdaaDoor
/- parts: all works of a register, in numbers. No conditions. -/
namespace Go.Proofs.YtgibbaadjbohdaaDoor
open Go Go.RowKit Lift

structure W4 where
  k : Int
  a : Int
  b : Int
  c : Int
def w4C (w : W4) : List D := [dI w.k, dI w.a, dI w.b, dI w.c]
def wkL (l : List W4) : List (List D) := l.map w4C
theorem wkL_len (l : List W4) : (wkL l).length = l.length := by simp [wkL]
theorem wkL_all (l : List W4) : (wkL l).all (fun x => x.length == 4) = true := by simp [wkL, w4C]
theorem wkL_nth (l : List W4) (k : Nat) (w : W4) (h : l[k]? = some w) : (wkL l)[k]? = some (w4C w) := by simp [wkL, h]
def nxt (S : Hg) (t : Nat) (w : W4) : Hg := { doS S (1000000 + 1000000 * t + 1000) w.k w.a w.b w.c with works := w64 ((doS S (1000000 + 1000000 * t + 1000) w.k w.a w.b w.c).works + 1) }
def atW (l : List W4) (t : Nat) : W4 := l[t]?.getD ⟨0, 0, 0, 0⟩
def opS (r : Reg) (l : List W4) : Nat → Hg
  | 0 => nH r
  | t + 1 => nxt (opS r l t) t (atW l t)
def doW (S : Hg) (w : W4) : Bool := dowB S w.k w.a w.b w.c
def opB (r : Reg) (l : List W4) (t : Nat) : Bool := doW (opS r l t) (atW l t)
def opN (r : Reg) (l : List W4) : Option Nat := (List.range l.length).find? fun t => !opB r l t
def oE (r : Reg) (l : List W4) : Int := if validB r = true then (if l.length ≤ 200 then (if opN r l = none then 0 else 91) else 2) else 90
def oAt (r : Reg) (l : List W4) : Int := if validB r = true then (if l.length ≤ 200 then (match opN r l with | some t => (t : Int) | none => 0) else 0) else 0
theorem opN_none {r : Reg} {l : List W4} : opN r l = none ↔ ∀ t, t < l.length → opB r l t = true := by simp [opN]
theorem opN_some {r : Reg} {l : List W4} {t : Nat} (ht : t < l.length) (h : ∀ j, j < t → opB r l j = true) (hb : opB r l t = false) : opN r l = some t := by
  unfold opN
  rw [List.find?_eq_some_iff_append]
  refine ⟨by simp [hb], List.range t, (List.range' (t + 1) (l.length - t - 1)), ?_, fun a ha => ?_⟩
  · rw [List.range_eq_range', List.range_eq_range']
    have h1 := List.range'_append (s := 0) (m := t) (n := l.length - t) (step := 1)
    rw [show t + (l.length - t) = l.length by omega] at h1
    rw [← h1, show l.length - t = (l.length - t - 1) + 1 by omega, List.range'_succ]
    simp
  · simpa using h a (List.mem_range.1 ha)
theorem oE_ok {r : Reg} {l : List W4} (h : oE r l = 0) : validB r = true ∧ l.length ≤ 200 ∧ ∀ t, t < l.length → opB r l t = true := by
  unfold oE at h
  split at h
  · rename_i hv
    split at h
    · rename_i hl
      split at h
      · rename_i hn
        exact ⟨hv, hl, opN_none.1 hn⟩
      · exact absurd h (by decide)
    · exact absurd h (by decide)
  · exact absurd h (by decide)
theorem oE_at {r : Reg} {l : List W4} (h : oE r l = 0) : oAt r l = 0 := by
  obtain ⟨h1, h2, h3⟩ := oE_ok h
  unfold oAt
  rw [if_pos h1, if_pos h2, opN_none.2 h3]
structure RegOk (r : Reg) : Prop where
  ks : r.ks.length ≤ 6
  ps : r.ps.length ≤ 24
  os : r.os.length ≤ 6
  m0 : 0 ≤ r.ms
  m4 : r.ms ≤ 4
  kd : ∀ k ∈ r.ks, k.p ≤ 4
  pt : ∀ p ∈ r.ps, 0 ≤ p.kd ∧ p.kd.toNat < r.ks.length ∧ 0 ≤ p.h ∧ p.h ≤ 100000 ∧ 0 ≤ p.c ∧ p.c ≤ 100000
theorem valid_ok {r : Reg} (h : validB r = true) : RegOk r := by
  unfold validB at h
  simp only [Bool.and_eq_true, Bool.not_eq_true', Bool.or_eq_false_iff, decide_eq_false_iff_not, List.any_eq_false, Bool.not_eq_false'] at h
  obtain ⟨⟨⟨⟨a1, a2⟩, a3⟩, a4⟩, ⟨b1, b2⟩, b3⟩ := h
  have a4' := wI_t a4
  refine ⟨by omega, by omega, by omega, a4'.1, a4'.2, fun k hk => ?_, fun p hp => ?_⟩
  · have := b1 k hk
    have this : kdB k = true := by simpa using this
    unfold kdB at this
    simp only [Bool.and_eq_true] at this
    have := wI_t this.2
    omega
  · have := b2 p hp
    have this : p0B r p = true := by simpa using this
    unfold p0B kinB at this
    simp only [Bool.and_eq_true] at this
    have h1 := wI_t this.1.1
    have h2 := wI_t this.1.2
    have h3 := wI_t this.2
    rw [w64_in (by omega) (by omega)] at h1
    omega
theorem nH_ok {r : Reg} (h : RegOk r) : HgrOk (nH r) := by
  refine ⟨h.ks, h.os, by rw [nH_len]; exact h.ps, by simp [nH], fun k => ?_, fun p hp => ?_⟩
  · unfold kpl
    show (r.ks[k]?.getD ⟨0, 0, 0⟩).p ≤ 4
    cases hk : r.ks[k]? with
    | none => simp
    | some x => exact h.kd x (List.mem_of_getElem? hk)
  · obtain ⟨i, hi, rfl⟩ := List.getElem_of_mem hp
    rw [nH_len] at hi
    obtain ⟨q, hq⟩ := nthI hi
    have e := nH_at hq
    rw [List.getElem?_eq_getElem (by rw [nH_len]; exact hi)] at e
    rw [Option.some.inj e]
    have := h.pt q (List.mem_of_getElem? hq)
    exact ⟨this.1, this.2.1, by simp [newP, nH], by simp [newP, nH]⟩
theorem nH_W {r : Reg} (h : RegOk r) : HsW (nH r) 0 := by
  refine ⟨h.m0, h.m4, by simp [nH], fun p hp => ?_⟩
  obtain ⟨i, hi, rfl⟩ := List.getElem_of_mem hp
  rw [nH_len] at hi
  obtain ⟨q, hq⟩ := nthI hi
  have e := nH_at hq
  rw [List.getElem?_eq_getElem (by rw [nH_len]; exact hi)] at e
  rw [Option.some.inj e]
  exact ⟨fun x hx => by simp [newP] at hx, by simp [newP], fun hm => absurd (show (0 : Int) ≤ -1 from hm) (by omega)⟩
theorem works_ok {S : Hg} (h : HgrOk S) (n : Int) : HgrOk { S with works := n } := ⟨h.ks, h.os, h.np, h.is, h.kp, fun p hp => ⟨(h.pt p hp).k0, (h.pt p hp).k1, (h.pt p hp).sl, (h.pt p hp).cl⟩⟩
theorem works_N {S : Hg} {t : Nat} (h : HgN S t) (n : Int) : HgN { S with works := n } t := ⟨h.n, h.hn, h.nd, h.pv, h.tp⟩
theorem works_W {S : Hg} {w : Nat} (h : HsW S w) (n : Int) : HsW { S with works := n } w := ⟨h.m0, h.m4, h.fl, h.pt⟩
theorem opS_ok {r : Reg} (h : RegOk r) (l : List W4) : ∀ t, HgrOk (opS r l t) ∧ HgN (opS r l t) (1000000 + 1000000 * t) ∧ HsW (opS r l t) t
  | 0 => ⟨nH_ok h, (nH_N h.ps).up (by omega), nH_W h⟩
  | t + 1 => by
    obtain ⟨h1, h2, h3⟩ := opS_ok h l t
    obtain ⟨k1, k2⟩ := do_keep (N := 1000000 + 1000000 * t + 1000) h1 h2 (by omega) (atW l t).k (atW l t).a (atW l t).b (atW l t).c
    have k3 := do_W h1 h3 (1000000 + 1000000 * t + 1000) (atW l t).k (atW l t).a (atW l t).b (atW l t).c
    exact ⟨works_ok k1 _, works_N (k2.up (by omega)) _, works_W k3 _⟩
end Go.Proofs.YtgibbaadjbohdaaDoor
/- parts: open (views last; symbolic names). No conditions. -/
namespace Go.Proofs.YtgibbaadjbohdaaDoor
open Go Go.RowKit Lift

def opZ (l : List W4) : Nat := 1000000 + 1000000 * (l.length + 1)
def opG (r : Reg) (l : List W4) : St := ⟨[(4, .ptr 1104 0), (5, dI 0), (6, dI 0)], HF (opS r l l.length) [], opZ l⟩
def opF (r : Reg) (l : List W4) : St := ⟨[(4, .val (.pointer none)), (5, dI (oAt r l)), (6, dI (oE r l))], [], opZ l⟩
def OpQ (pin : List Nat) (r : Reg) (l : List W4) (s' : St) : Prop := (oE r l = 0 ∧ validB r = true ∧ Wk pin s' (opG r l)) ∨ (oE r l ≠ 0 ∧ Wk pin s' (opF r l))
theorem put_wk2 (S : Hg) (tl : Hp) (n : Int) : hput (HF S tl) 1104 [.list (kds S.rg.ks), .list (p0s S.rg.ps), dI S.rg.ms, .list (ods S.rg.os), .vec S.pv S.pts.length 1, .vec 1032 S.iss.length 1, .vec 1056 S.fl.length 2, dI n, .vec 1088 S.pts.length 1] = HF { S with works := n } tl := rfl
set_option maxRecDepth 100000 in
set_option maxHeartbeats 8000000 in
theorem open_in {pin : List Nat} (r : Reg) (l : List W4) (hl : l.length ≤ 100000) :
    AWb false Tryd.prog 38 pin cparts_open (fun e s' => (e = .norm ∨ e = .ret) ∧ OpQ pin r l s') ⟨envOf 0 [regD r, .list (wkL l)], [], 300⟩ := by
  unfold cparts_open
  have c1 := pvalid_ac r
  cases hv : validB r
  case false =>
    rw [hv] at c1
    have e1 : oE r l = 90 := by unfold oE; rw [if_neg (by simp [hv])]
    have e2 : oAt r l = 0 := by unfold oAt; rw [if_neg (by simp [hv])]
    unfold regD regC at *
    (repeat' (first | (with_reducible first | refine thenQ_n ?_ | refine blockQ_n ?_ | refine thenQ_e ?_ | refine blockQ_t ?_ | refine blockQ_f (by decide) ?_) | apply aw_seq | apply aw_skip | apply aw_exit | apply aw_ret | apply aw_block | apply aw_condT rfl | apply aw_condF rfl | ((first | refine aw_hide fun K hK => aw_region ?_ | refine acall0 (c1) ?_ | refine ago_if (by omega) ?_ | skip); simp (disch := first | omega | (simp [okLog] <;> omega)) only [ZU, Nat.reduceAdd, Nat.reduceMul, dI, AOpRun, aexec, D.isBot, ↓eget_h, or_self, ↓reduceIte, D.cells, Nat.reduceBEq, Nat.reduceLeDiff, List.drop, List.take, dB, reduceCtorEq, or_true, true_and]) | subst hK))
    all_goals
      refine .inr ⟨by rw [e1]; decide, ?_⟩
      unfold opF opZ
      rw [e1, e2]
      exact wk_env ⟨rfl, rfl, rfl, trivial⟩ (fun g c h => by cases h) (by simp only; omega)
  rw [hv] at c1
  cases q1 : decide ((l.length : Int) > 200)
  case true =>
    have h2 : ¬ l.length ≤ 200 := by simp at q1; omega
    have e1 : oE r l = 2 := by unfold oE; rw [if_pos hv, if_neg h2]
    have e2 : oAt r l = 0 := by unfold oAt; rw [if_pos hv, if_neg h2]
    unfold regD regC at *
    (repeat' (first | (with_reducible first | refine thenQ_n ?_ | refine blockQ_n ?_ | refine thenQ_e ?_ | refine blockQ_t ?_ | refine blockQ_f (by decide) ?_) | apply aw_seq | apply aw_skip | apply aw_exit | apply aw_ret | apply aw_block | apply aw_condT rfl | apply aw_condF rfl | ((first | refine aw_hide fun K hK => aw_region ?_ | refine acall0 (c1) ?_ | refine ago_if (by omega) ?_ | skip); simp (disch := first | omega | (simp [okLog] <;> omega)) only [ZU, Nat.reduceAdd, Nat.reduceMul, dI, AOpRun, aexec, D.isBot, ↓eget_h, or_self, ↓reduceIte, D.cells, Nat.reduceBEq, Nat.reduceLeDiff, List.drop, List.take, dB, wkL_len, isSh, abin, q1, reduceCtorEq, or_true, true_and]) | subst hK))
    all_goals
      refine .inr ⟨by rw [e1]; decide, ?_⟩
      unfold opF opZ
      rw [e1, e2]
      exact wk_env ⟨rfl, rfl, rfl, trivial⟩ (fun g c h => by cases h) (by simp only; omega)
  have h2 : l.length ≤ 200 := by simp at q1; omega
  have hR := valid_ok hv
  unfold regD regC at *
  (iterate 16 (try (first | apply aw_seq | ((first | apply aw_skip | apply aw_exit); with_reducible repeat' (first | refine thenQ_n ?_ | refine blockQ_n ?_ | refine thenQ_e ?_ | refine blockQ_t ?_ | refine blockQ_f (by decide) ?_)) | apply aw_ret | apply aw_block | apply aw_condT rfl | apply aw_condF rfl | ((first | refine aw_hide fun K hK => aw_region ?_ | refine acall0 (c1) ?_ | refine ago_if (by omega) ?_ | skip); simp (disch := first | omega | (simp [okLog] <;> omega)) only [ZU, Nat.reduceAdd, Nat.reduceMul, dI, AOpRun, aexec, D.isBot, ↓eget_h, or_self, ↓reduceIte, D.cells, Nat.reduceBEq, Nat.reduceLeDiff, List.drop, List.take, dB, wkL_len, isSh, abin, q1]) | (subst hK; with_reducible repeat' (first | refine thenQ_n ?_ | refine blockQ_n ?_ | refine thenQ_e ?_ | refine blockQ_t ?_ | refine blockQ_f (by decide) ?_)))))
  refine aw_seq ?_
  refine aw_region_inline [⟨some 15, .loadN 4 (.tmp 2), none, []⟩] [⟨some 4, .mv (.tmp 16), none, []⟩] ?_
  simp (disch := first | omega | (simp [okLog] <;> omega)) only [ZU, Nat.reduceMul, Nat.reduceAdd, AOpRun, aexec, Nat.reduceBEq, ↓eget_h, Nat.reduceLeDiff, ↓reduceIte, List.drop, List.take]
  refine inlK pin [(1, .list (wkL l))] _ kparts_newHangar rfl rfl (by simp) (fun _ h => h) ⟨.inr ⟨rfl, .list _⟩, trivial⟩ ?_
  refine aw_wk (s' := ⟨envOf 0 [regD r], [], 500⟩) (wk_env ⟨rfl, trivial⟩ (fun g c h => by cases h) (by simp only; omega)) ?_
  refine aw_post (newHangar_in r hR.m0 hR.m4 hR.ps hR.os) ?_
  rintro e s' ⟨he, hw⟩
  refine ⟨_, hw, inlQ _ he rfl (by simp only [List.length]; omega) ?_⟩
  simp (disch := first | omega | (simp [okLog] <;> omega)) only [ZU, Nat.reduceAdd, Nat.reduceMul, Nat.reduceSub, eget_n, Nat.reduceBEq, AOpRun, aexec, ↓eget_h]
  (repeat' (first | (with_reducible first | refine thenQ_n ?_ | refine blockQ_n ?_ | refine thenQ_e ?_ | refine blockQ_t ?_ | refine blockQ_f (by decide) ?_) | apply aw_seq | apply aw_skip | apply aw_exit | apply aw_ret | apply aw_block | apply aw_condT rfl | apply aw_condF rfl | ((first | refine aw_hide fun K hK => aw_region ?_ | refine ago_if (by omega) ?_ | skip); simp (disch := first | omega | (simp [okLog] <;> omega)) only [ZU, Nat.reduceAdd, Nat.reduceMul, AOpRun, aexec, ↓eget_h, Nat.reduceBEq, wkL_len]) | subst hK))
  clear c1
  refine aw_loop (fun t : Nat => ⟨[(4, .ptr 1104 0), (17, .list (wkL l)), (18, dI l.length), (19, dI t)], HF (opS r l t) [], 1000000 + 1000000 * t⟩) (fun t => t ≤ l.length ∧ ∀ j, j < t → opB r l j = true) (fun t => l.length - t) ⟨0, ⟨by omega, fun j hj => by omega⟩, ?_⟩ ?_
  · ((first | refine ⟨.inr rfl, ?_⟩ | refine ⟨.inl rfl, ?_⟩ | skip) <;> exact wk_env (by repeat' (first | exact trivial | exact rfl | refine And.intro ?_ ?_)) (by first | exact fun _ _ h => h | exact fun _ _ h => HF_tl h) (by simp only; omega))
  rintro t ⟨ht, hok⟩
  obtain ⟨hS, hN, hW⟩ := opS_ok hR l t
  by_cases ht2 : t < l.length
  case neg =>
    obtain rfl : t = l.length := by omega
    have hz : opN r l = none := opN_none.2 hok
    have e1 : oE r l = 0 := by unfold oE; rw [if_pos hv, if_pos h2, if_pos hz]
    (repeat' (first | (with_reducible first | refine thenQ_n ?_ | refine blockQ_n ?_ | refine thenQ_e ?_ | refine blockQ_t ?_ | refine blockQ_f (by decide) ?_) | apply aw_seq | apply aw_skip | apply aw_exit | apply aw_ret | apply aw_block | apply aw_condT rfl | apply aw_condF rfl | ((first | refine aw_hide fun K hK => aw_region ?_ | skip); simp (disch := first | omega | (simp [okLog] <;> omega)) only [ZU, Nat.reduceMul, dI, AOpRun, aexec, Nat.reduceBEq, ↓eget_h, isSh, ↓reduceIte, abin, Int.lt_irrefl, decide_false, Nat.reduceAdd, reduceCtorEq, or_true, true_and]) | subst hK))
    refine .inl ⟨e1, hv, ?_⟩
    unfold opG opZ
    ((first | refine ⟨.inr rfl, ?_⟩ | refine ⟨.inl rfl, ?_⟩ | skip) <;> exact wk_env (by repeat' (first | exact trivial | exact rfl | refine And.intro ?_ ?_)) (by first | exact fun _ _ h => h | exact fun _ _ h => HF_tl h) (by simp only; omega))
  obtain ⟨w, hx⟩ := nthI ht2
  have ew : atW l t = w := by unfold atW; rw [hx]; rfl
  have g1 := wkL_nth l t w hx
  unfold w4C at g1
  have ga := wkL_all l
  have il : (t : Int) < (l.length : Int) := by omega
  have hdo := do_in (pin := 1104 :: pin) (opS r l t) _ (1000000 + 1000000 * t + 1000) hS hN (by omega) (hW.ok (by omega)) w.k w.a w.b w.c
  have es : opS r l (t + 1) = { doS (opS r l t) (1000000 + 1000000 * t + 1000) w.k w.a w.b w.c with works := w64 ((doS (opS r l t) (1000000 + 1000000 * t + 1000) w.k w.a w.b w.c).works + 1) } := by
    show nxt (opS r l t) t (atW l t) = _
    rw [ew]; rfl
  have eb : opB r l t = dowB (opS r l t) w.k w.a w.b w.c := by unfold opB doW; rw [ew]
  generalize opS r l t = S at *
  generalize doS S (1000000 + 1000000 * t + 1000) w.k w.a w.b w.c = T at *
  have po := fun tl k h => put_out hN tl (k := k) h
  have go := fun tl k h => get_out hN tl (k := k) h
  unfold dI at g1
  (iterate 11 (try (first | apply aw_seq | ((first | apply aw_skip | apply aw_exit); with_reducible repeat' (first | refine thenQ_n ?_ | refine blockQ_n ?_ | refine thenQ_e ?_ | refine blockQ_t ?_ | refine blockQ_f (by decide) ?_)) | apply aw_ret | apply aw_block | apply aw_condT rfl | apply aw_condF rfl | ((first | refine aw_hide fun K hK => aw_region ?_ | skip); simp (disch := first | omega | (simp [okLog] <;> omega)) only [ZU, Nat.reduceMul, dI, AOpRun, aexec, Nat.reduceBEq, ↓eget_h, isSh, ↓reduceIte, abin, il, Nat.reduceAdd, ga, opt1, g1, Nat.reduceLeDiff, List.take, go, po, ↓hget_h, D.isBot, D.cells, List.all, D.leaf, splice, List.drop]) | (subst hK; with_reducible repeat' (first | refine thenQ_n ?_ | refine blockQ_n ?_ | refine thenQ_e ?_ | refine blockQ_t ?_ | refine blockQ_f (by decide) ?_)))))
  refine aw_seq (aw_seq ?_)
  refine aw_region_inline [⟨some 24, .mv (.tmp 4), none, []⟩, ⟨some 25, .loadN 4 (.tmp 8), none, []⟩] [⟨some 27, .un .not (.tmp 26), none, []⟩] ?_
  simp (disch := first | omega | (simp [okLog] <;> omega)) only [ZU, Nat.reduceAdd, dI, Nat.reduceMul, AOpRun, aexec, ↓eget_h, Nat.reduceBEq, go, ↓hget_h, Nat.reduceLeDiff, ↓reduceIte, List.drop, List.take]
  refine inlK (1104 :: pin) [(4, .ptr 1104 0), (7, .val (.int .i64 t)), (17, .list (wkL l)), (18, .val (.int .i64 l.length)), (19, .val (.int .i64 t))] _ kpparts_hangar_do rfl rfl (by simp) (fun g hg => List.mem_cons_of_mem _ hg) ⟨.inr ⟨rfl, .ptr _ _ (List.mem_cons_self ..)⟩, .inr ⟨rfl, .val _⟩, .inr ⟨rfl, .list _⟩, .inr ⟨rfl, .val _⟩, .inr ⟨rfl, .val _⟩, trivial⟩ ?_
  refine aw_wk (s' := ⟨envOf 0 [.ptr 1104 0, wkC w.k w.a w.b w.c], HF S [], 1000000 + 1000000 * t + 1000⟩) (by ((first | refine ⟨.inr rfl, ?_⟩ | refine ⟨.inl rfl, ?_⟩ | skip) <;> exact wk_env (by repeat' (first | exact trivial | exact rfl | refine And.intro ?_ ?_)) (by first | exact fun _ _ h => h | exact fun _ _ h => HF_tl h) (by simp only; omega))) ?_
  refine aw_post hdo ?_
  rintro e s' ⟨he, hw⟩
  refine ⟨_, hw, inlQ _ he rfl (by simp only [List.length]; omega) ?_⟩
  have gc := hg_cells T
  unfold dI at gc
  have pw := fun tl n => put_wk2 T tl n
  unfold dI at pw
  cases hb : dowB S w.k w.a w.b w.c
  case false =>
    rw [hb] at eb
    have hz := opN_some ht2 hok eb
    have e1 : oE r l = 91 := by unfold oE; rw [if_pos hv, if_pos h2, if_neg (by rw [hz]; simp)]
    have e2 : oAt r l = t := by unfold oAt; rw [if_pos hv, if_pos h2, hz]
    simp (disch := first | omega | (simp [okLog] <;> omega)) only [ZU, Nat.reduceAdd, Nat.reduceMul, dB, eget_n, Nat.reduceBEq, AOpRun, aexec, ↓eget_h]
    (repeat' (first | (with_reducible first | refine thenQ_n ?_ | refine blockQ_n ?_ | refine thenQ_e ?_ | refine blockQ_t ?_ | refine blockQ_f (by decide) ?_) | apply aw_seq | apply aw_skip | apply aw_exit | apply aw_ret | apply aw_block | apply aw_condT rfl | apply aw_condF rfl | ((first | refine aw_hide fun K hK => aw_region ?_ | skip); simp (disch := first | omega | (simp [okLog] <;> omega)) only [ZU, Nat.reduceAdd, Nat.reduceMul, AOpRun, aexec, Nat.reduceBEq, ↓eget_h, blockQ, reduceCtorEq, or_true, true_and]) | subst hK))
    all_goals
      refine .inr ⟨by rw [e1]; decide, ?_⟩
      unfold opF opZ
      rw [e1, e2]
      exact wk_env ⟨rfl, rfl, rfl, trivial⟩ (fun g c h => by cases h) (by simp only; omega)
  rw [hb] at eb
  simp (disch := first | omega | (simp [okLog] <;> omega)) only [ZU, Nat.reduceAdd, Nat.reduceMul, dB, eget_n, Nat.reduceBEq, AOpRun, aexec, ↓eget_h]
  (repeat' (first | (with_reducible first | refine thenQ_n ?_ | refine blockQ_n ?_ | refine thenQ_e ?_ | refine blockQ_t ?_ | refine blockQ_f (by decide) ?_) | apply aw_seq | apply aw_skip | apply aw_exit | apply aw_ret | apply aw_block | apply aw_condT rfl | apply aw_condF rfl | ((first | refine aw_hide fun K hK => aw_region ?_ | skip); simp (disch := first | omega | (simp [okLog] <;> omega)) only [ZU, Nat.reduceAdd, Nat.reduceMul, AOpRun, aexec, ↓eget_h, Nat.reduceBEq, run1, gc, Nat.add_zero, isSh, ↓reduceIte, abin, D.isBot, D.cells, Nat.reduceLeDiff, List.all, D.leaf, splice, List.take, List.drop, pw, fits]) | subst hK))
  refine ⟨t + 1, ⟨by omega, fun j hj => ?_⟩, by omega, ?_⟩
  · rcases (by omega : j < t ∨ j = t) with h | rfl
    · exact hok j h
    · exact eb
  rw [es]
  ((first | refine ⟨.inr rfl, ?_⟩ | refine ⟨.inl rfl, ?_⟩ | skip) <;> exact wk_env (by repeat' (first | exact trivial | exact rfl | refine And.intro ?_ ?_)) (by first | exact fun _ _ h => h | exact fun _ _ h => HF_tl h) (by simp only; omega))
end Go.Proofs.YtgibbaadjbohdaaDoor
/- parts: each (views last; symbolic names). No conditions. -/
namespace Go.Proofs.YtgibbaadjbohdaaDoor
open Go Go.RowKit Lift

def pr2 (x : Int × Int) : D := .agg [dI x.1, dI x.2]
set_option maxRecDepth 100000 in
set_option maxHeartbeats 1000000 in
theorem us1_ac (p : Prt) : AC Tryd.prog 16 [ptV p] [] [] (pr2 (p.h, p.c)) := by
  refine kparts_Used_S1.ac (n0 := 0) (by simp) ⟨.at_ _, trivial⟩ trivial rfl ?_
  unfold cparts_Used_S1 ptV pr2
  (repeat' (first | (with_reducible first | refine thenQ_n ?_ | refine blockQ_n ?_ | refine thenQ_e ?_ | refine blockQ_t ?_ | refine blockQ_f (by decide) ?_) | apply aw_seq | apply aw_skip | apply aw_exit | apply aw_ret | apply aw_block | apply aw_condT rfl | apply aw_condF rfl | ((first | refine aw_hide fun K hK => aw_region ?_ | refine ago_if (by omega) ?_ | skip); simp (disch := first | omega | (simp [okLog] <;> omega)) only [ZU, Nat.reduceMul, dI, dB, AOpRun, aexec, ↓reduceIte, Nat.reduceBEq, Nat.reduceAdd, ↓eget_h, List.drop, run1, fillD, D.isBot, D.cells, ne_eq, not_true_eq_false, Nat.reduceGT, or_self, splice, List.take, Nat.reduceLeDiff, List.all, D.leaf]) | subst hK))
  all_goals (refine end_q [] [] ?_ ?_ <;> repeat' (first | exact trivial | exact vr_val _ | apply vr_agg | apply And.intro))
set_option maxRecDepth 100000 in
set_option maxHeartbeats 1000000 in
theorem wh1_ac (p : Prt) : AC Tryd.prog 15 [ptV p] [] [] (pr2 (p.m, p.pl)) := by
  refine kparts_Where_S1.ac (n0 := 0) (by simp) ⟨.at_ _, trivial⟩ trivial rfl ?_
  unfold cparts_Where_S1 ptV pr2
  (repeat' (first | (with_reducible first | refine thenQ_n ?_ | refine blockQ_n ?_ | refine thenQ_e ?_ | refine blockQ_t ?_ | refine blockQ_f (by decide) ?_) | apply aw_seq | apply aw_skip | apply aw_exit | apply aw_ret | apply aw_block | apply aw_condT rfl | apply aw_condF rfl | ((first | refine aw_hide fun K hK => aw_region ?_ | refine ago_if (by omega) ?_ | skip); simp (disch := first | omega | (simp [okLog] <;> omega)) only [ZU, Nat.reduceMul, dI, dB, AOpRun, aexec, ↓reduceIte, Nat.reduceBEq, Nat.reduceAdd, ↓eget_h, List.drop, Nat.reduceLeDiff, List.take, D.isBot, D.cells, List.all, D.leaf, splice]) | subst hK))
  all_goals (refine end_q [] [] ?_ ?_ <;> repeat' (first | exact trivial | exact vr_val _ | apply vr_agg | apply And.intro))
theorem part_vw {S : Hg} {top i : Nat} {p : Prt} (hN : HgN S top) (tl : Hp) (hp : S.pts[i]? = some p) : Vw (hget (HF S tl)) [pN i, sN i, cN i] (.ptr (pN i) 0) (ptV p) :=
  vw_obj (by simp) (get_pN hN tl hp) ⟨.refl _, .refl _, .refl _, .refl _, .refl _, .refl _, vec_ints p.since (by simp) (get_sN hN tl hp) rfl, vec_bools p.chk (by simp) (get_cN hN tl hp) rfl, trivial⟩ rfl
theorem acallP {P : Program} {dr : Bool} {b : Nat} {Q : St → Prop} {dst : Option Nat} {anc : List Nat} {l : List AOper} {k : Nat} {s : St} {log : Lg} {f : FuncId} {S : Hg} {top i : Nat} {p : Prt} {tl : Hp} {d : D} (hN : HgN S top) (hp : S.pts[i]? = some p) (hA : AC P f [ptV p] [] [] d) (hF : Flat d) (hs : s.hp = HF S tl)
    (hl : okLog dr log anc [pN i, sN i, cN i] [] = true) (h : ARun P dr b Q l (k + 1) (s.app dst d []) ((k, [pN i, sN i, cN i], []) :: log)) : ACallK P dr b Q (.fn f [] []) [.ptr (pN i) 0] dst anc l k s log := by
  refine acall hA [pN i, sN i, cN i] ?_ (.inr hF) ?_ hl h
  · rw [hs]
    exact ⟨part_vw hN tl hp, trivial⟩
  · rw [hs]
    intro g hg
    simp only [List.mem_cons, List.not_mem_nil, or_false] at hg
    rcases hg with rfl | rfl | rfl
    · exact ⟨_, get_pN hN tl hp⟩
    · exact ⟨_, get_sN hN tl hp⟩
    · exact ⟨_, get_cN hN tl hp⟩
theorem flat2 (a b : Value) : Flat (.agg [.val a, .val b]) := .agg _ (by intro d hd; simp at hd; rcases hd with rfl | rfl <;> exact .val _)
def evL (f : Prt → Int × Int) (r : Reg) (l : List W4) : List (Int × Int) := if oE r l = 0 then (opS r l l.length).pts.map f else []
def gO (Z : Nat) : Nat → Nat
  | 0 => Z + 500
  | i + 1 => Z + 1000 + 1000 * i + 72
set_option maxRecDepth 100000 in
set_option maxHeartbeats 8000000 in
theorem each_ac (F : FuncId) (f : Prt → Int × Int) (hF : ∀ p, AC Tryd.prog F [ptV p] [] [] (pr2 (f p))) (r : Reg) (l : List W4) (hl : l.length ≤ 100000) :
    AC Tryd.prog 14 [regD r, .list (wkL l), .fn F [] []] [] [] (.tup [.list (sps (evL f r l)), dI (oE r l)]) := by
  refine kparts_each.ac (n0 := 0) (by simp) ⟨in_regD _ _, .list _, .fn _ _ _ (by simp) (by simp), trivial⟩ trivial rfl ?_
  unfold cparts_each
  unfold regD regC
  (iterate 3 (try (first | apply aw_seq | ((first | apply aw_skip | apply aw_exit); with_reducible repeat' (first | refine thenQ_n ?_ | refine blockQ_n ?_ | refine thenQ_e ?_ | refine blockQ_t ?_ | refine blockQ_f (by decide) ?_)) | apply aw_ret | apply aw_block | apply aw_condT rfl | apply aw_condF rfl | ((first | refine aw_hide fun K hK => aw_region ?_ | refine ago_if (by omega) ?_ | skip); simp (disch := first | omega | (simp [okLog] <;> omega)) only [ZU, Nat.reduceAdd, Nat.reduceMul, dI, AOpRun, aexec, D.isBot, ↓eget_h, or_self, ↓reduceIte, D.cells, Nat.reduceBEq]) | (subst hK; with_reducible repeat' (first | refine thenQ_n ?_ | refine blockQ_n ?_ | refine thenQ_e ?_ | refine blockQ_t ?_ | refine blockQ_f (by decide) ?_)))))
  refine aw_seq ?_
  refine aw_region_inline [⟨some 13, .loadN 4 (.tmp 3), none, []⟩, ⟨some 14, .mv (.tmp 1), none, []⟩] [⟨some 12, .mv (.tmp 15), none, []⟩, ⟨some 16, .ext (.tmp 12) 0, none, []⟩, ⟨some 17, .ext (.tmp 12) 1, none, []⟩, ⟨some 18, .ext (.tmp 12) 2, none, []⟩, ⟨some 8, .mv (.tmp 16), none, []⟩, ⟨some 9, .mv (.tmp 17), none, []⟩, ⟨some 7, .mv (.tmp 18), none, []⟩] ?_
  simp (disch := first | omega | (simp [okLog] <;> omega)) only [ZU, Nat.reduceAdd, dI, Nat.reduceMul, AOpRun, aexec, Nat.reduceBEq, ↓eget_h, Nat.reduceLeDiff, ↓reduceIte, List.drop, List.take]
  refine inlK [] [(2, .fn F [] []), (6, .val (.slice none 0 0))] _ kparts_open rfl rfl (by simp) (fun _ h => h) ⟨.inr ⟨rfl, .fn _ _ _ (by simp) (by simp)⟩, .inr ⟨rfl, .val _⟩, trivial⟩ ?_
  refine aw_wk (s' := ⟨envOf 0 [regD r, .list (wkL l)], [], 300⟩) (wk_env ⟨rfl, rfl, trivial⟩ (fun g c h => by cases h) (by simp only; omega)) ?_
  refine aw_post (open_in r l hl) ?_
  rintro e s' ⟨he, ⟨z, hv, hw⟩ | ⟨z, hw⟩⟩
  case inr =>
    refine ⟨_, hw, inlQ _ he rfl (by unfold opF opZ; simp only [List.length]; omega) ?_⟩
    unfold opF
    have e1 : evL f r l = [] := by unfold evL; rw [if_neg z]
    rw [e1]
    have qE : (oE r l != 0) = true := by simpa using z
    generalize oE r l = E at *
    generalize oAt r l = A at *
    have hZ : 1000000 ≤ opZ l := by unfold opZ; omega
    generalize opZ l = Z at *
    simp (disch := first | omega | (simp [okLog] <;> omega)) only [ZU, Nat.reduceAdd, Nat.reduceMul, dI, Nat.reduceBEq, eget_n, ↓eget_h, AOpRun, aexec, opt1]
    (repeat' (first | (with_reducible first | refine thenQ_n ?_ | refine blockQ_n ?_ | refine thenQ_e ?_ | refine blockQ_t ?_ | refine blockQ_f (by decide) ?_) | apply aw_seq | apply aw_skip | apply aw_exit | apply aw_ret | apply aw_block | apply aw_condT rfl | apply aw_condF rfl | ((first | refine aw_hide fun K hK => aw_region ?_ | refine ago_if (by omega) ?_ | skip); simp (disch := first | omega | (simp [okLog] <;> omega)) only [ZU, Nat.reduceAdd, Nat.reduceMul, AOpRun, aexec, Nat.reduceBEq, ↓eget_h, isSh, ↓reduceIte, abin, qE]) | subst hK))
    all_goals (refine end_q [] [] ?_ ?_ <;> repeat' (first | exact trivial | exact vr_val _ | exact vr_nil | apply vr_tup | apply And.intro))
  have hR := valid_ok hv
  obtain ⟨hS, hN, -⟩ := opS_ok hR l l.length
  refine ⟨_, hw, inlQ _ he rfl (by unfold opG opZ; simp only [List.length]; omega) ?_⟩
  unfold opG
  have eL : evL f r l = (opS r l l.length).pts.map f := by unfold evL; rw [if_pos z]
  rw [eL, z]
  generalize opS r l l.length = S at *
  have hZ : 1000000 + 1000000 * l.length ≤ opZ l := by unfold opZ; omega
  generalize opZ l = Z at *
  have hN := hN.up hZ
  have gc := hg_cells S []
  unfold dI at gc
  have hnp := hS.np
  simp (disch := first | omega | (simp [okLog] <;> omega)) only [ZU, Nat.reduceAdd, Nat.reduceMul, dI, Nat.reduceBEq, eget_n, ↓eget_h, AOpRun, aexec, opt1]
  (repeat' (first | (with_reducible first | refine thenQ_n ?_ | refine blockQ_n ?_ | refine thenQ_e ?_ | refine blockQ_t ?_ | refine blockQ_f (by decide) ?_) | apply aw_seq | apply aw_skip | apply aw_exit | apply aw_ret | apply aw_block | apply aw_condT rfl | apply aw_condF rfl | ((first | refine aw_hide fun K hK => aw_region ?_ | refine ago_if (by omega) ?_ | skip); simp (disch := first | omega | (simp [okLog] <;> omega)) only [ZU, Nat.reduceAdd, Nat.reduceMul, AOpRun, aexec, Nat.reduceBEq, ↓eget_h, isSh, ↓reduceIte, abin, bne_self_eq_false, run1, gc, Nat.add_zero]) | subst hK))
  clear gc
  refine aw_loop (fun i : Nat => ⟨[(2, .fn F [] []), (25, .vec S.pv S.pts.length 1), (26, dI S.pts.length), (27, dI i), (6, .vec (gO Z i) i 2)], HF S [(gO Z i, scells ((S.pts.take i).map f))], Z + 1000 + 1000 * i⟩) (fun i => i ≤ S.pts.length) (fun i => S.pts.length - i) ⟨0, by omega, ?_⟩ ?_
  · have hH : ∀ g c', hget (HF S [(Z + 500, [])]) g = some c' → hget (HF S []) g = some c' ∨ (g = Z + 500 ∧ c' = []) := fun g c' h => by
      by_cases hg : g = Z + 500
      · subst hg
        rw [get_out hN _ (by omega), hget_head] at h
        cases h
        exact .inr ⟨rfl, rfl⟩
      · refine .inl ?_
        have h2 : hget (hdel (HF S [(Z + 500, [])]) (Z + 500)) g = some c' := by rw [hget_hdel, if_neg (fun e => hg e.symm)]; exact h
        rw [del_out hN _ (by omega)] at h2
        rw [show hdel [(Z + 500, ([] : List D))] (Z + 500) = [] from if_pos rfl] at h2
        exact h2
    refine wk_new ⟨.refl _, .refl _, .refl _, .refl _, .nilv _ _, trivial⟩ (fun g c h => ?_) (by simp only; omega)
    rcases hH g c h with h | ⟨rfl, rfl⟩
    · exact .inl ⟨c, h, VwL.refl _⟩
    · exact .inr ⟨rfl, (get_out hN [] (by omega)).trans rfl, by simp only; omega⟩
  intro i hi1
  have hgb : Z + 500 ≤ gO Z i ∧ gO Z i < Z + 1000 + 1000 * i := by
    cases i with
    | zero => exact ⟨Nat.le_refl _, by show Z + 500 < _; omega⟩
    | succ j => show Z + 500 ≤ Z + 1000 + 1000 * j + 72 ∧ Z + 1000 + 1000 * j + 72 < _; omega
  by_cases hi2 : i < S.pts.length
  case neg =>
    obtain rfl : i = S.pts.length := by omega
    have e0 : S.pts.take S.pts.length = S.pts := List.take_of_length_le (Nat.le_refl _)
    rw [e0]
    have el : (S.pts.map f).length = S.pts.length := List.length_map ..
    generalize gO Z S.pts.length = g at *
    generalize S.pts.map f = L at *
    refine aw_wk (s' := ⟨[(6, .vec g S.pts.length 2), (26, dI S.pts.length), (27, dI S.pts.length)], [(g, scells L)], Z + 1000 + 1000 * S.pts.length⟩) (wk_env ⟨rfl, rfl, rfl, trivial⟩ (fun g' c h => ?_) (Nat.le_refl _)) ?_
    · have e : g = g' ∧ scells L = c := by
        unfold hget at h
        split at h
        · exact ⟨by assumption, Option.some.inj h⟩
        · cases h
      rw [← e.1, ← e.2, get_out hN _ (by omega)]
      exact if_pos rfl
    rw [← el]
    refine aw_wk (s' := ⟨[(6, .vec 40 L.length 2), (26, dI L.length), (27, dI L.length)], [(40, scells L)], 600⟩) (wk_ren [(40, g)] (by simp [okRen]) ⟨.vec _ _ _ _ rfl, .val _, .val _, trivial⟩ ⟨⟨g, _, rfl, if_pos rfl, RenL.flat _ (scells_in _)⟩, trivial⟩) ?_
    (repeat' (first | (with_reducible first | refine thenQ_n ?_ | refine blockQ_n ?_ | refine thenQ_e ?_ | refine blockQ_t ?_ | refine blockQ_f (by decide) ?_) | apply aw_seq | apply aw_skip | apply aw_exit | apply aw_ret | apply aw_block | apply aw_condT rfl | apply aw_condF rfl | ((first | refine aw_hide fun K hK => aw_region ?_ | skip); simp (disch := first | omega | (simp [okLog] <;> omega)) only [ZU, Nat.reduceMul, Nat.reduceAdd, dI, AOpRun, aexec, Nat.reduceBEq, ↓eget_h, isSh, ↓reduceIte, abin, Int.lt_irrefl, decide_false]) | subst hK))
    all_goals (refine end_q [40] [] ?_ ?_ <;> repeat' (first | exact trivial | exact vr_val _ | apply vr_tup | refine vr_fl _ _ _ _ _ (by decide) rfl ?_ ?_ ?_ ?_ | apply And.intro))
    all_goals first | exact sps_two _ | exact sps_len _ | (rw [sc_tk2]; exact sps_flat _) | exact sps_flat _ | exact scells_in _
  obtain ⟨p, hp⟩ := nthI hi2
  have gv := get_pv hN
  have gn := pvC_nth hi2
  have il : (i : Int) < (S.pts.length : Int) := by omega
  have po := fun tl k h => put_out hN tl (k := k) h
  have go := fun tl k h => get_out hN tl (k := k) h
  have do_ := fun tl k h => del_out hN tl (k := k) h
  have et : (S.pts.take (i + 1)).map f = (S.pts.take i).map f ++ [((f p).1, (f p).2)] := by rw [List.take_add_one, hp]; simp
  have ll : ((S.pts.take i).map f).length = i := by rw [List.length_map, List.length_take]; omega
  have hFp := hF p
  generalize hL : (S.pts.take i).map f = L at *
  have tk := sc_tk2 L
  have hle : L.length * 2 ≤ (scells L).length := by rw [scells_len]; omega
  have sn := sc_snc2 L (f p).1 (f p).2
  rw [ll] at tk hle
  rw [← et] at sn
  clear et
  generalize hT : (S.pts.take (i + 1)).map f = T at *
  generalize f p = x at *
  generalize hg : gO Z i = g at *
  obtain ⟨N, hNn⟩ : ∃ N, Z + 1000 + 1000 * i = N := ⟨_, rfl⟩
  have hNZ : Z ≤ N := by omega
  rw [hNn] at hgb ⊢
  have nn1 : (g == N + 8 + 24 + 32) = false := beq_eq_false_iff_ne.mpr (by omega)
  have nn2 : (g == N + 8 + 24 + 40) = false := beq_eq_false_iff_ne.mpr (by omega)
  have nn3 : (N + 8 + 24 + 32 == N + 8 + 24 + 40) = false := beq_eq_false_iff_ne.mpr (by omega)
  have nn4 : (N + 8 + 24 + 32 == g) = false := beq_eq_false_iff_ne.mpr (by omega)
  unfold pr2 dI at hFp
  have k1 : ((i + 1) * 2 * 16 : Nat) ≤ 2 ^ 48 := by omega
  have k2 : (i + 1 : Nat) < 2 ^ 62 := by omega
  have nn5 : (N + 8 + 24 + 40 == g) = false := beq_eq_false_iff_ne.mpr (by omega)
  (repeat' (first | (with_reducible first | refine thenQ_n ?_ | refine blockQ_n ?_ | refine thenQ_e ?_ | refine blockQ_t ?_ | refine blockQ_f (by decide) ?_) | apply aw_seq | apply aw_skip | apply aw_exit | apply aw_ret | apply aw_block | apply aw_condT rfl | apply aw_condF rfl | ((first | refine aw_hide fun K hK => aw_region ?_ | refine acallP hN hp hFp (flat2 _ _) rfl (by kernel_rfl) ?_ | skip); simp (disch := first | omega | (simp [okLog] <;> omega)) only [ZU, Nat.mul_one, dI, AOpRun, aexec, Nat.reduceBEq, ↓eget_h, isSh, ↓reduceIte, abin, il, Nat.reduceAdd, Nat.reduceMul, run1, gv, Nat.add_zero, gn, go, nn1, fillD, D.isBot, D.cells, ne_eq, not_true_eq_false, Nat.reduceGT, or_self, splice, List.take, List.drop, po, base, ↓hget_h, hle, tk, elems, Nat.reduceLeDiff, k1, k2, nn2, nn3, List.all, D.leaf, ups, sn, do_, hdel_c, nn4, nn5, hdel_n, fits]) | subst hK))
  refine ⟨i + 1, by omega, by omega, ?_⟩
  rw [hT, show gO Z (i + 1) = N + 8 + 24 + 40 by show Z + 1000 + 1000 * i + 72 = _; omega]
  refine wk_env ⟨rfl, rfl, rfl, rfl, rfl, trivial⟩ (fun g' c h => ?_) (by simp only; omega)
  have e1 : hdel (HF S [(N + 8 + 24 + 32, [D.val (Value.int IntKind.i64 x.fst), D.val (Value.int IntKind.i64 x.snd)]), (N + 8 + 24 + 40, scells T)]) (N + 8 + 24 + 32) = HF S [(N + 8 + 24 + 40, scells T)] := by
    rw [do_ _ _ (by omega)]
    congr 1
    show (if N + 8 + 24 + 32 = N + 8 + 24 + 32 then _ else _) = _
    rw [if_pos rfl]
    show (if N + 8 + 24 + 40 = N + 8 + 24 + 32 then _ else _) = _
    rw [if_neg (by omega)]; rfl
  have h2 : hget (HF S [(N + 8 + 24 + 40, scells T)]) g' = some c := h
  rw [← e1, hget_hdel] at h2
  by_cases hb : N + 8 + 24 + 32 = g'
  · rw [if_pos hb] at h2; cases h2
  · rw [if_neg hb] at h2; exact h2
end Go.Proofs.YtgibbaadjbohdaaDoor
/- parts: Check, Used, Where (views last; symbolic names). No conditions. -/
namespace Go.Proofs.YtgibbaadjbohdaaDoor
open Go Go.RowKit Lift

set_option maxRecDepth 100000 in
set_option maxHeartbeats 8000000 in
theorem pUsed_ac (r : Reg) (l : List W4) (hl : l.length ≤ 100000) : AC Tryd.prog 8 [regD r, .list (wkL l)] [] [] (.tup [.list (sps (evL (fun p => (p.h, p.c)) r l)), dI (oE r l)]) := by
  refine kparts_Used.ac (n0 := 0) (by simp) ⟨in_regD _ _, .list _, trivial⟩ trivial rfl ?_
  unfold cparts_Used
  have c1 := each_ac _ _ us1_ac r l hl
  generalize oE r l = E at *
  generalize evL (fun p => (p.h, p.c)) r l = L at *
  unfold regD regC at *
  (repeat' (first | (with_reducible first | refine thenQ_n ?_ | refine blockQ_n ?_ | refine thenQ_e ?_ | refine blockQ_t ?_ | refine blockQ_f (by decide) ?_) | apply aw_seq | apply aw_skip | apply aw_exit | apply aw_ret | apply aw_block | apply aw_condT rfl | apply aw_condF rfl | ((first | refine aw_hide fun K hK => aw_region ?_ | refine acall0 (c1) ?_ | refine ago_if (by omega) ?_ | skip); simp (disch := first | omega | (simp [okLog] <;> omega)) only [ZU, Nat.reduceAdd, Nat.reduceMul, dI, AOpRun, aexec, D.isBot, ↓eget_h, or_self, ↓reduceIte, D.cells, Nat.reduceBEq, Nat.reduceLeDiff, List.drop, List.take, opt1]) | subst hK))
  all_goals (refine end_q [] [] ?_ ?_ <;> repeat' (first | exact trivial | exact vr_val _ | exact vr_list _ | apply vr_tup | apply And.intro))
set_option maxRecDepth 100000 in
set_option maxHeartbeats 8000000 in
theorem pWhere_ac (r : Reg) (l : List W4) (hl : l.length ≤ 100000) : AC Tryd.prog 7 [regD r, .list (wkL l)] [] [] (.tup [.list (sps (evL (fun p => (p.m, p.pl)) r l)), dI (oE r l)]) := by
  refine kparts_Where.ac (n0 := 0) (by simp) ⟨in_regD _ _, .list _, trivial⟩ trivial rfl ?_
  unfold cparts_Where
  have c1 := each_ac _ _ wh1_ac r l hl
  generalize oE r l = E at *
  generalize evL (fun p => (p.m, p.pl)) r l = L at *
  unfold regD regC at *
  (repeat' (first | (with_reducible first | refine thenQ_n ?_ | refine blockQ_n ?_ | refine thenQ_e ?_ | refine blockQ_t ?_ | refine blockQ_f (by decide) ?_) | apply aw_seq | apply aw_skip | apply aw_exit | apply aw_ret | apply aw_block | apply aw_condT rfl | apply aw_condF rfl | ((first | refine aw_hide fun K hK => aw_region ?_ | refine acall0 (c1) ?_ | refine ago_if (by omega) ?_ | skip); simp (disch := first | omega | (simp [okLog] <;> omega)) only [ZU, Nat.reduceAdd, Nat.reduceMul, dI, AOpRun, aexec, D.isBot, ↓eget_h, or_self, ↓reduceIte, D.cells, Nat.reduceBEq, Nat.reduceLeDiff, List.drop, List.take, opt1]) | subst hK))
  all_goals (refine end_q [] [] ?_ ?_ <;> repeat' (first | exact trivial | exact vr_val _ | exact vr_list _ | apply vr_tup | apply And.intro))
set_option maxRecDepth 100000 in
set_option maxHeartbeats 8000000 in
theorem pCheck_ac (r : Reg) (l : List W4) (hl : l.length ≤ 100000) : AC Tryd.prog 6 [regD r, .list (wkL l)] [] [] (.tup [dI (oAt r l), dI (oE r l)]) := by
  refine kparts_Check.ac (n0 := 0) (by simp) ⟨in_regD _ _, .list _, trivial⟩ trivial rfl ?_
  unfold cparts_Check
  unfold regD regC
  (iterate 3 (try (first | apply aw_seq | ((first | apply aw_skip | apply aw_exit); with_reducible repeat' (first | refine thenQ_n ?_ | refine blockQ_n ?_ | refine thenQ_e ?_ | refine blockQ_t ?_ | refine blockQ_f (by decide) ?_)) | apply aw_ret | apply aw_block | apply aw_condT rfl | apply aw_condF rfl | ((first | refine aw_hide fun K hK => aw_region ?_ | refine ago_if (by omega) ?_ | skip); simp (disch := first | omega | (simp [okLog] <;> omega)) only [ZU, Nat.reduceAdd, Nat.reduceMul, dI, AOpRun, aexec, D.isBot, ↓eget_h, or_self, ↓reduceIte, D.cells, Nat.reduceBEq]) | (subst hK; with_reducible repeat' (first | refine thenQ_n ?_ | refine blockQ_n ?_ | refine thenQ_e ?_ | refine blockQ_t ?_ | refine blockQ_f (by decide) ?_)))))
  refine aw_seq ?_
  refine aw_region_inline [⟨some 7, .loadN 4 (.tmp 2), none, []⟩, ⟨some 8, .mv (.tmp 1), none, []⟩] [⟨some 6, .mv (.tmp 9), none, []⟩, ⟨some 10, .ext (.tmp 6) 0, none, []⟩, ⟨some 11, .ext (.tmp 6) 1, none, []⟩, ⟨some 12, .ext (.tmp 6) 2, none, []⟩, ⟨some 4, .mv (.tmp 11), none, []⟩, ⟨some 5, .mv (.tmp 12), none, []⟩] ?_
  simp (disch := first | omega | (simp [okLog] <;> omega)) only [ZU, Nat.reduceAdd, dI, Nat.reduceMul, AOpRun, aexec, Nat.reduceBEq, ↓eget_h, Nat.reduceLeDiff, ↓reduceIte, List.drop, List.take]
  refine inlK [] [] _ kparts_open rfl rfl (by simp) (fun _ h => h) trivial ?_
  refine aw_wk (s' := ⟨envOf 0 [regD r, .list (wkL l)], [], 300⟩) (wk_env ⟨rfl, rfl, trivial⟩ (fun g c h => by cases h) (by simp only; omega)) ?_
  refine aw_post (open_in r l hl) ?_
  rintro e s' ⟨he, hq⟩
  rcases hq with ⟨z, hv, hw⟩ | ⟨z, hw⟩
  · have e2 := oE_at z
    refine ⟨_, hw, inlQ _ he rfl (by unfold opG opZ; simp only [List.length]; omega) ?_⟩
    unfold opG
    rw [e2, z]
    have hZ : 1000000 ≤ opZ l := by unfold opZ; omega
    generalize opZ l = Z at *
    generalize opS r l l.length = S at *
    simp (disch := first | omega | (simp [okLog] <;> omega)) only [ZU, Nat.reduceAdd, Nat.reduceMul, dI, Nat.reduceBEq, eget_n, ↓eget_h, AOpRun, aexec, opt1]
    refine aw_wk (s' := ⟨[(4, dI 0), (5, dI 0)], [], Z + 8 * 6⟩) (wk_env ⟨rfl, rfl, trivial⟩ (fun g c h => by cases h) (by simp only; omega)) ?_
    (repeat' (first | (with_reducible first | refine thenQ_n ?_ | refine blockQ_n ?_ | refine thenQ_e ?_ | refine blockQ_t ?_ | refine blockQ_f (by decide) ?_) | apply aw_seq | apply aw_skip | apply aw_exit | apply aw_ret | apply aw_block | apply aw_condT rfl | apply aw_condF rfl | ((first | refine aw_hide fun K hK => aw_region ?_ | refine ago_if (by omega) ?_ | skip); simp (disch := first | omega | (simp [okLog] <;> omega)) only [ZU, Nat.reduceMul, Nat.reduceAdd, dI, AOpRun, aexec, ↓eget_h, Nat.reduceBEq]) | subst hK))
    all_goals (refine end_q [] [] ?_ ?_ <;> repeat' (first | exact trivial | exact vr_val _ | apply vr_tup | apply And.intro))
  · refine ⟨_, hw, inlQ _ he rfl (by unfold opF opZ; simp only [List.length]; omega) ?_⟩
    unfold opF
    have hZ : 1000000 ≤ opZ l := by unfold opZ; omega
    generalize opZ l = Z at *
    generalize oE r l = E at *
    generalize oAt r l = A at *
    simp (disch := first | omega | (simp [okLog] <;> omega)) only [ZU, Nat.reduceAdd, Nat.reduceMul, dI, Nat.reduceBEq, eget_n, ↓eget_h, AOpRun, aexec, opt1]
    (repeat' (first | (with_reducible first | refine thenQ_n ?_ | refine blockQ_n ?_ | refine thenQ_e ?_ | refine blockQ_t ?_ | refine blockQ_f (by decide) ?_) | apply aw_seq | apply aw_skip | apply aw_exit | apply aw_ret | apply aw_block | apply aw_condT rfl | apply aw_condF rfl | ((first | refine aw_hide fun K hK => aw_region ?_ | refine ago_if (by omega) ?_ | skip); simp (disch := first | omega | (simp [okLog] <;> omega)) only [ZU, Nat.reduceAdd, Nat.reduceMul, AOpRun, aexec, ↓eget_h, Nat.reduceBEq]) | subst hK))
    all_goals (refine end_q [] [] ?_ ?_ <;> repeat' (first | exact trivial | exact vr_val _ | apply vr_tup | apply And.intro))
end Go.Proofs.YtgibbaadjbohdaaDoor
/- parts: flights behind works, in numbers. No conditions. -/
namespace Go.Proofs.YtgibbaadjbohdaaDoor
open Go Go.RowKit Lift

theorem w64_l (x y : Int) : w64 (w64 x + y) = w64 (x + y) := by
  unfold w64
  simp only [IntKind.wrap_i64]
  omega
theorem w64_w (x : Int) : w64 (w64 x) = w64 x := by have := w64_l x 0; rwa [Int.add_zero, Int.add_zero] at this
structure KeepQ (Q : Prt → Prop) : Prop where
  same : ∀ p p', p'.h = p.h → p'.c = p.c → Q p → Q p'
  fly : ∀ S h c p, Q p → Q (flP S h c p)
theorem setP_Q {Q : Prt → Prop} {S : Hg} {i : Nat} {p' : Prt} (h : ∀ p ∈ S.pts, Q p) (hp : Q p') : ∀ p ∈ (S.setP i p').pts, Q p := fun q hq => by
  rcases List.mem_or_eq_of_mem_set hq with h1 | rfl
  · exact h q h1
  · exact hp
theorem flN_Q {Q : Prt → Prop} (K : KeepQ Q) {S : Hg} (h : ∀ p ∈ S.pts, Q p) (m hh c : Int) : ∀ i, i ≤ S.pts.length → ∀ p ∈ (flN S m hh c i).pts, Q p
  | 0, _ => h
  | i + 1, hi => by
    have ih := flN_Q K h m hh c i (by omega)
    unfold flN
    split
    · exact ih
    · exact setP_Q ih (K.fly S hh c _ (h _ (List.mem_of_getElem? (prtAt_at (show i < S.pts.length by omega)))))
theorem do_Q {Q : Prt → Prop} (K : KeepQ Q) {S : Hg} (hS : HgrOk S) (h : ∀ p ∈ S.pts, Q p) (N : Nat) (k a b c : Int) : ∀ p ∈ (doS S N k a b c).pts, Q p := by
  unfold doS
  by_cases h1 : k = 1
  · rw [if_pos h1]
    unfold flyS
    split
    · exact flN_Q K h a b c S.pts.length (Nat.le_refl _)
    · exact h
  rw [if_neg h1]
  by_cases h2 : k = 2
  · rw [if_pos h2]
    unfold ftS
    split
    · rename_i hb
      unfold ftB at hb
      simp only [Bool.and_eq_true] at hb
      exact setP_Q h (K.same (prtAt S a.toNat) _ rfl rfl (h _ (List.mem_of_getElem? (prtAt_at (partB_t hS.np hb.1.1).2))))
    · exact h
  rw [if_neg h2]
  by_cases h3 : k = 3
  · rw [if_pos h3]
    unfold tkS
    split
    · rename_i hb
      unfold tkB at hb
      simp only [Bool.and_eq_true] at hb
      exact setP_Q h (K.same (prtAt S a.toNat) _ rfl rfl (h _ (List.mem_of_getElem? (prtAt_at (partB_t hS.np hb.2.1).2))))
    · exact h
  rw [if_neg h3]
  by_cases h4 : k = 4
  · rw [if_pos h4]
    unfold isuS
    split
    · exact h
    · exact h
  rw [if_neg h4]
  by_cases h5 : k = 5
  · rw [if_pos h5]
    split
    · unfold chS
      split
      · rename_i hb
        unfold chB at hb
        simp only [Bool.and_eq_true] at hb
        exact setP_Q h (K.same (prtAt S a.toNat) _ rfl rfl (h _ (List.mem_of_getElem? (prtAt_at (partB_t hS.np hb.1.1).2))))
      · exact h
    · exact h
  rw [if_neg h5]
  split
  · unfold scrS
    split
    · rename_i hb
      unfold scrB at hb
      simp only [Bool.and_eq_true] at hb
      exact setP_Q h (K.same (prtAt S a.toNat) _ rfl rfl (h _ (List.mem_of_getElem? (prtAt_at (partB_t hS.np hb.2.1).2))))
    · exact h
  · exact h
def InW (p : Prt) : Prop := w64 p.h = p.h ∧ w64 p.c = p.c
theorem inW_keep : KeepQ InW := ⟨fun p p' e1 e2 h => by unfold InW; rw [e1, e2]; exact h, fun S h c p _ => ⟨w64_w _, w64_w _⟩⟩
theorem opS_in {r : Reg} (h : RegOk r) (l : List W4) : ∀ t, ∀ p ∈ (opS r l t).pts, InW p
  | 0 => fun p hp => by
    obtain ⟨i, hi, rfl⟩ := List.getElem_of_mem hp
    have hi' : i < r.ps.length := by rw [← nH_len]; exact hi
    obtain ⟨q, hq⟩ := nthI hi'
    have e : ((opS r l 0).pts[i]'hi) = newP r i q := by
      have := nH_at hq
      rw [List.getElem?_eq_getElem (by rw [nH_len]; exact hi')] at this
      exact Option.some.inj this
    rw [e]
    have := h.pt q (List.mem_of_getElem? hq)
    exact ⟨w64_in (by show _ ≤ q.h; omega) (by show q.h ≤ _; omega), w64_in (by show _ ≤ q.c; omega) (by show q.c ≤ _; omega)⟩
  | t + 1 => do_Q inW_keep (opS_ok h l t).1 (opS_in h l t) _ _ _ _ _
theorem flN_spec (S : Hg) (m h c : Int) (i : Nat) : ∀ k, k ≤ S.pts.length → (flN S m h c k).pts[i]? = if i < k then (S.pts[i]?).map (fun p => if (p.m != m) = true then p else flP S h c p) else S.pts[i]?
  | 0, _ => by rw [if_neg (by omega)]; rfl
  | k + 1, hk => by
    have ih := flN_spec S m h c i k (by omega)
    have hp := prtAt_at (show k < S.pts.length by omega)
    have hl : k < (flN S m h c k).pts.length := by have := (flN_like S m h c k).n; omega
    have e : flN S m h c (k + 1) = if ((prtAt S k).m != m) = true then flN S m h c k else (flN S m h c k).setP k (flP S h c (prtAt S k)) := rfl
    rw [e]
    by_cases hik : i = k
    · subst hik
      have hs : (if i < i + 1 then (S.pts[i]?).map (fun p => if (p.m != m) = true then p else flP S h c p) else S.pts[i]?) = some (if ((prtAt S i).m != m) = true then prtAt S i else flP S h c (prtAt S i)) := by
        rw [if_pos (show i < i + 1 by omega), hp]; rfl
      rw [hs]
      by_cases hq : ((prtAt S i).m != m) = true
      · rw [if_pos hq, if_pos hq, ih, if_neg (Nat.lt_irrefl i), hp]
      · rw [if_neg hq, if_neg hq]
        show ((flN S m h c i).pts.set i _)[i]? = _
        rw [List.getElem?_set_self hl]
    · have e2 : (i < k + 1) = (i < k) := by apply propext; omega
      simp only [e2]
      by_cases hq : ((prtAt S k).m != m) = true
      · rw [if_pos hq]; exact ih
      · rw [if_neg hq]
        show ((flN S m h c k).pts.set k _)[i]? = _
        rw [List.getElem?_set_ne (fun e => hik e.symm)]; exact ih
theorem do_len (S : Hg) (N : Nat) (k a b c : Int) : (doS S N k a b c).pts.length = S.pts.length := by
  have h0 : ∀ (i : Nat) (p : Prt), (S.setP i p).pts.length = S.pts.length := fun i p => by simp [Hg.setP]
  unfold doS flyS ftS tkS isuS chS scrS
  repeat' split
  all_goals first | rfl | exact h0 _ _ | exact (flN_like S a b c S.pts.length).n
theorem opS_len (r : Reg) (l : List W4) : ∀ t, (opS r l t).pts.length = r.ps.length
  | 0 => nH_len r
  | t + 1 => (do_len _ _ _ _ _ _).trans (opS_len r l t)
def hsum (L : List Int) : Nat → Int
  | 0 => 0
  | j + 1 => w64 (hsum L j + L[j]?.getD 0)
theorem atW_app1 {W F : List W4} {t : Nat} (h : t < W.length) : atW (W ++ F) t = atW W t := by unfold atW; rw [List.getElem?_append_left h]
theorem opS_app (r : Reg) (W F : List W4) : ∀ t, t ≤ W.length → opS r (W ++ F) t = opS r W t
  | 0, _ => rfl
  | t + 1, h => by
    unfold opS
    rw [opS_app r W F t (by omega), atW_app1 (by omega)]
structure Flown (m : Int) (L : List Int) (j : Nat) (p q : Prt) : Prop where
  mm : q.m = p.m
  pl : q.pl = p.pl
  h : q.h = if p.m = m then w64 (p.h + hsum L j) else p.h
  c : q.c = if p.m = m then w64 (p.c + j) else p.c
end Go.Proofs.YtgibbaadjbohdaaDoor
/- Works as cells, what each part reads, in numbers. No conditions. -/
namespace Go.Proofs.YtgibbaadjbohdaaDoor
open Go Go.RowKit Lift

def wkF (l : List W4) : List D := l.flatMap w4C
theorem wkL_flat (l : List W4) : (wkL l).flatten = wkF l := by simp [wkL, wkF, List.flatMap]
theorem wkF_len (l : List W4) : (wkF l).length = l.length * 4 := by
  induction l with
  | nil => rfl
  | cons w l ih =>
    unfold wkF at *
    rw [List.flatMap_cons, List.length_append, ih]
    simp [w4C]; omega
theorem wkF_take (l : List W4) : (wkF l).take (l.length * 4) = wkF l := List.take_of_length_le (by rw [wkF_len]; omega)
theorem wkF_leaf (l : List W4) : (wkF l).all D.leaf = true := by
  rw [List.all_eq_true]
  intro d hd
  obtain ⟨w, _, hw⟩ := List.mem_flatMap.1 hd
  simp [w4C] at hw
  rcases hw with rfl | rfl | rfl | rfl <;> rfl
theorem wkF_in (l : List W4) : ∀ d ∈ wkF l, In (fun _ => False) d := fun d hd => by
  obtain ⟨w, _, hw⟩ := List.mem_flatMap.1 hd
  simp [w4C] at hw
  rcases hw with rfl | rfl | rfl | rfl <;> exact .val _
theorem wkL_four (l : List W4) : ∀ e ∈ wkL l, e.length = 4 := fun e he => by
  obtain ⟨w, _, rfl⟩ := List.mem_map.1 he; rfl
theorem vw_wk {H : Heap} {V : List Nat} {g n : Nat} (l : List W4) (hg : g ∈ V) (hc : H g = some (wkF l)) (hn : l.length = n) : Vw H V (.vec g n 4) (.list (wkL l)) := by
  subst hn
  refine .vec g _ 4 (wkF l) (wkL l) hg hc (by rw [wkF_len]; omega) (wkL_four l) (wkL_len l) (by rw [wkL_flat, wkF_take]) fun d hd => ?_
  obtain ⟨w, _, hw⟩ := List.mem_flatMap.1 hd
  simp [w4C] at hw
  rcases hw with rfl | rfl | rfl | rfl <;> exact .val _
theorem evL_nth {f : Prt → Int × Int} {r : Reg} {l : List W4} (h : oE r l = 0) {i : Nat} {p : Prt} (hp : (opS r l l.length).pts[i]? = some p) : (sps (evL f r l))[i]? = some [dI (f p).1, dI (f p).2] := by
  unfold evL
  rw [if_pos h]
  simp [sps, hp, dI]
theorem evL_len (f : Prt → Int × Int) {r : Reg} {l : List W4} (h : oE r l = 0) : (evL f r l).length = r.ps.length := by
  unfold evL
  rw [if_pos h, List.length_map, opS_len]
end Go.Proofs.YtgibbaadjbohdaaDoor
/- A flight without hours behind works, in numbers. No conditions. -/
namespace Go.Proofs.YtgibbaadjbohdaaDoor
open Go Go.RowKit Lift

theorem lg_all {S : Hg} {m c : Int} : ∀ {n : Nat} {a : Int}, lg S m c n = some a → ∀ i, i < n → (prtAt S i).m = m → c ≤ lfC S (prtAt S i)
  | 0, _, _, i, hi, _ => by omega
  | n + 1, a, h, i, hi, hm => by
    unfold lg at h
    cases hl : lg S m c n with
    | none => rw [hl] at h; cases h
    | some b =>
      rw [hl] at h
      rcases (by omega : i < n ∨ i = n) with h1 | rfl
      · exact lg_all hl i h1 hm
      · have h2 : (if ((prtAt S i).m != m) = true then some b else if lfC S (prtAt S i) < c then none else some (if lfH S (prtAt S i) < b then lfH S (prtAt S i) else b)) = some a := h
        rw [if_neg (by simp [hm])] at h2
        by_cases h3 : lfC S (prtAt S i) < c
        · rw [if_pos h3] at h2; cases h2
        · omega
structure Flew (S T : Hg) (m c : Int) (p q : Prt) : Prop where
  mm : q.m = p.m
  pl : q.pl = p.pl
  kd : q.kd = p.kd
  eh : q.h = p.h
  ec : q.c = w64 (p.c + if p.m = m then c else 0)
  lf : p.m = m → c ≤ lfC S p
theorem opB_app {r : Reg} {W F : List W4} {t : Nat} (h : t < W.length) : opB r (W ++ F) t = opB r W t := by
  unfold opB
  rw [opS_app r W F t (by omega), atW_app1 h]
theorem oE_app {r : Reg} {W F : List W4} (h : oE r (W ++ F) = 0) : oE r W = 0 := by
  obtain ⟨h1, h2, h3⟩ := oE_ok h
  rw [List.length_append] at h2 h3
  unfold oE
  rw [if_pos h1, if_pos (by omega), if_pos (opN_none.2 fun t ht => by rw [← opB_app (F := F) ht]; exact h3 t (by omega))]
theorem flew (r : Reg) (W : List W4) (m c : Int) (h : oE r (W ++ [⟨1, m, 0, c⟩]) = 0) : (0 ≤ c ∧ c ≤ 100) ∧ (opS r (W ++ [⟨1, m, 0, c⟩]) (W.length + 1)).rg = (opS r W W.length).rg ∧ (opS r (W ++ [⟨1, m, 0, c⟩]) (W.length + 1)).pts.length = r.ps.length ∧
    ∀ (i : Nat) (p : Prt), (opS r W W.length).pts[i]? = some p → ∃ q : Prt, (opS r (W ++ [⟨1, m, 0, c⟩]) (W.length + 1)).pts[i]? = some q ∧ Flew (opS r W W.length) (opS r (W ++ [⟨1, m, 0, c⟩]) (W.length + 1)) m c p q := by
  obtain ⟨h1, h2, h3⟩ := oE_ok h
  have hr := valid_ok h1
  have hb := h3 W.length (by simp)
  have hin := opS_in hr W W.length
  have hlen := opS_len r (W ++ [⟨1, m, 0, c⟩]) (W.length + 1)
  have ew : atW (W ++ [⟨1, m, 0, c⟩]) W.length = ⟨1, m, 0, c⟩ := by simp [atW]
  unfold opB doW at hb
  rw [ew, opS_app r W _ W.length (Nat.le_refl _)] at hb
  have es : opS r (W ++ [⟨1, m, 0, c⟩]) (W.length + 1) = nxt (opS r W W.length) W.length ⟨1, m, 0, c⟩ := by
    show nxt (opS r (W ++ [⟨1, m, 0, c⟩]) W.length) W.length (atW (W ++ [⟨1, m, 0, c⟩]) W.length) = _
    rw [ew, opS_app r W _ W.length (Nat.le_refl _)]
  rw [es] at hlen ⊢
  generalize opS r W W.length = S at *
  have hf : flyB S m 0 c = true := hb
  have ed : doS S (1000000 + 1000000 * W.length + 1000) 1 m 0 c = (flN S m 0 c S.pts.length).setF (flyF S m 0 c) := by
    unfold doS flyS
    rw [if_pos rfl, if_pos hf]
  have e1 : (nxt S W.length ⟨1, m, 0, c⟩).pts = (flN S m 0 c S.pts.length).pts := by
    show (doS S (1000000 + 1000000 * W.length + 1000) 1 m 0 c).pts = _
    rw [ed]; rfl
  have e2 : (nxt S W.length ⟨1, m, 0, c⟩).rg = S.rg := by
    show (doS S (1000000 + 1000000 * W.length + 1000) 1 m 0 c).rg = _
    rw [ed]
    exact (flN_like S m 0 c S.pts.length).rg
  unfold flyB at hf
  simp only [Bool.and_eq_true, Bool.not_eq_true', decide_eq_false_iff_not] at hf
  obtain ⟨_, hc, hl⟩ := hf
  have hl2 : ∃ a, lg S m c S.pts.length = some a := by
    unfold lgI at hl
    split at hl
    · cases hq : lg S m c S.pts.length with
      | none => rw [hq] at hl; exact absurd (show (0 : Int) > -1 by decide) hl
      | some a => exact ⟨a, rfl⟩
    · exact absurd (show (0 : Int) > -1 by decide) hl
  obtain ⟨a, ha⟩ := hl2
  refine ⟨wI_t hc, e2, hlen, fun i p hp => ?_⟩
  have hi := idx_lt hp
  have ep : prtAt S i = p := by unfold prtAt; rw [hp]; rfl
  rw [e1, flN_spec S m 0 c i _ (Nat.le_refl _), if_pos hi, hp, Option.map_some]
  refine ⟨_, rfl, ?_⟩
  obtain ⟨i1, i2⟩ := hin p (List.mem_of_getElem? hp)
  by_cases hm : p.m = m
  · rw [if_neg (by simp [hm])]
    refine ⟨rfl, rfl, rfl, ?_, ?_, fun _ => ?_⟩
    · show w64 (p.h + 0) = p.h
      rw [Int.add_zero]; exact i1
    · rw [if_pos hm]; rfl
    · rw [← ep]; exact lg_all ha i hi (by rw [ep]; exact hm)
  · rw [if_pos (by simp [hm])]
    refine ⟨rfl, rfl, rfl, rfl, ?_, fun e => absurd e hm⟩
    rw [if_neg hm, Int.add_zero]; exact i2.symm
theorem left_less {S T : Hg} {m c : Int} {p q : Prt} (hr : T.rg = S.rg) (hc : 0 ≤ c ∧ c ≤ 100) (hf : Flew S T m c p q) :
    w64 ((if 0 > lfC S p then 0 else lfC S p) - (if 0 > lfC T q then 0 else lfC T q)) = if p.m = m then c else 0 := by
  have hk : kdOf T q = kdOf S p := by unfold kdOf; rw [hr, hf.kd]
  have hcq := hf.ec
  have hlf := hf.lf
  have h1 : lfC S p = w64 ((kdOf S p).c - p.c) := rfl
  have h2 : lfC T q = w64 ((kdOf S p).c - q.c) := by unfold lfC; rw [hk]
  generalize (kdOf S p).c = K at *
  generalize lfC S p = A at *
  generalize lfC T q = B at *
  have hA : -9223372036854775808 ≤ A ∧ A ≤ 9223372036854775807 := by rw [h1]; unfold w64; rw [IntKind.wrap_i64]; omega
  by_cases hm : p.m = m
  · rw [if_pos hm] at hcq ⊢
    have h3 := hlf hm
    have hB : B = A - c := by
      rw [h2, hcq, h1]
      unfold w64
      have e1 : w64 (K - p.c) = A := h1.symm
      unfold w64 at e1
      simp only [IntKind.wrap_i64] at e1 ⊢
      omega
    rw [hB]
    unfold w64
    rw [IntKind.wrap_i64]
    split <;> split <;> omega
  · rw [if_neg hm, Int.add_zero] at hcq
    rw [if_neg hm]
    have hB : B = A := by
      rw [h2, hcq, h1]
      unfold w64
      simp only [IntKind.wrap_i64]
      omega
    rw [hB]
    unfold w64
    rw [IntKind.wrap_i64]
    omega
end Go.Proofs.YtgibbaadjbohdaaDoor
