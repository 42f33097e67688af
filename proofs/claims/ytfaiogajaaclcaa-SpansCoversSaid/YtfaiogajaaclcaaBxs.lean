/- Boxes as abstract values; what is left of a box without another one. No conditions. -/
import Derived.Test.YtfaiogajaaclcaaVals
namespace Go.Proofs.Ytfaiogajaaclcaa
open Go.RowKit Lift

abbrev Bx := List (Int × Int)
def sps (b : Bx) : List (List D) := b.map fun x => [.val (.int .i64 x.1), .val (.int .i64 x.2)]
def bxs (l : List Bx) : List (List D) := l.map fun b => [.list (sps b)]
def scells : Bx → List D
  | [] => []
  | x :: b => .val (.int .i64 x.1) :: .val (.int .i64 x.2) :: scells b
def bcells (l : List Bx) : List D := l.map fun b => .list (sps b)
def lo (b : Bx) (k : Nat) : Int := (b[k]?.getD (0, 0)).1
def hi (b : Bx) (k : Nat) : Int := (b[k]?.getD (0, 0)).2
theorem sps_len (b : Bx) : (sps b).length = b.length := by simp [sps]
theorem bxs_len (l : List Bx) : (bxs l).length = l.length := by simp [bxs]
theorem sps_all (b : Bx) : (sps b).all (fun x => x.length == 2) = true := by simp [sps]
theorem bxs_all (l : List Bx) : (bxs l).all (fun x => x.length == 1) = true := by simp [bxs]
theorem sps_two (b : Bx) : ∀ e ∈ sps b, e.length = 2 := by intro e he; obtain ⟨x, _, rfl⟩ := List.mem_map.1 he; rfl
theorem bxs_one (l : List Bx) : ∀ e ∈ bxs l, e.length = 1 := by simp [bxs]
theorem sps_flat (b : Bx) : (sps b).flatten = scells b := by
  induction b with
  | nil => rfl
  | cons x b ih => simp [sps, scells] at ih ⊢; exact ih
theorem bxs_flat (l : List Bx) : (bxs l).flatten = bcells l := by
  induction l with
  | nil => rfl
  | cons x l ih => simp [bxs, bcells] at ih ⊢; exact ih
theorem scells_len (b : Bx) : (scells b).length = b.length * 2 := by
  induction b with
  | nil => rfl
  | cons x b ih => simp [scells, ih]; omega
theorem bcells_len (l : List Bx) : (bcells l).length = l.length := by simp [bcells]
theorem scells_mem {b : Bx} : ∀ {d : D}, d ∈ scells b → ∃ n, d = .val (.int .i64 n) := by
  induction b with
  | nil => intro d h; simp [scells] at h
  | cons x b ih =>
    intro d h
    simp only [scells, List.mem_cons] at h
    rcases h with rfl | rfl | h
    · exact ⟨_, rfl⟩
    · exact ⟨_, rfl⟩
    · exact ih h
theorem scells_in (b : Bx) : ∀ d ∈ scells b, In (fun _ => False) d := fun d hd => by obtain ⟨n, rfl⟩ := scells_mem hd; exact .val _
theorem bcells_in (l : List Bx) : ∀ d ∈ bcells l, In (fun _ => False) d := by
  intro d hd; obtain ⟨x, _, rfl⟩ := List.mem_map.1 hd; exact .list _
theorem scells_leaf (b : Bx) : (scells b).all D.leaf = true := List.all_eq_true.2 fun d hd => by obtain ⟨n, rfl⟩ := scells_mem hd; rfl
theorem bcells_leaf (l : List Bx) : (bcells l).all D.leaf = true := by simp [bcells, D.leaf]
theorem scells_noY (b : Bx) : (scells b).all (noY 9) = true := List.all_eq_true.2 fun d hd => by obtain ⟨n, rfl⟩ := scells_mem hd; rfl
theorem bcells_noY (l : List Bx) : (bcells l).all (noY 9) = true := by simp [bcells, noY]
theorem sps_gd (b : Bx) (k : Nat) (h : k < b.length) : (sps b)[k]? = some [.val (.int .i64 (lo b k)), .val (.int .i64 (hi b k))] := by simp [sps, lo, hi, h]
theorem bxs_gd (l : List Bx) (k : Nat) (h : k < l.length) : (bxs l)[k]? = some [.list (sps (l[k]?.getD []))] := by simp [bxs, h]
theorem bcells_gd (l : List Bx) (k : Nat) (h : k < l.length) : (bcells l)[k]? = some (.list (sps (l[k]?.getD []))) := by simp [bcells, h]
theorem sc_lo : ∀ (b : Bx) (k : Nat), k < b.length → (scells b)[k * 2]? = some (.val (.int .i64 (lo b k)))
  | [], k, h => by simp at h
  | x :: b, 0, _ => rfl
  | x :: b, k + 1, h => by
    have := sc_lo b k (by simpa using h)
    rw [show (k + 1) * 2 = k * 2 + 1 + 1 by omega]
    simpa [scells, lo] using this
theorem sc_hi : ∀ (b : Bx) (k : Nat), k < b.length → (scells b)[k * 2 + 1]? = some (.val (.int .i64 (hi b k)))
  | [], k, h => by simp at h
  | x :: b, 0, _ => rfl
  | x :: b, k + 1, h => by
    have := sc_hi b k (by simpa using h)
    rw [show (k + 1) * 2 + 1 = k * 2 + 1 + 1 + 1 by omega]
    simpa [scells, hi] using this
theorem splice_cons (x : D) (c : List D) (n : Nat) (l : List D) : splice (x :: c) (n + 1) l = x :: splice c n l := by
  unfold splice
  rw [show n + 1 + l.length = (n + l.length) + 1 by omega]
  simp
theorem sc_set2 : ∀ (b : Bx) (k : Nat) (u v : Int), k < b.length → splice (scells b) (k * 2) [.val (.int .i64 u), .val (.int .i64 v)] = scells (b.set k (u, v))
  | [], k, _, _, h => by simp at h
  | x :: b, 0, u, v, _ => rfl
  | x :: b, k + 1, u, v, h => by
    have := sc_set2 b k u v (by simpa using h)
    rw [show (k + 1) * 2 = k * 2 + 1 + 1 by omega]
    simp only [scells, splice_cons, this, List.set_cons_succ]
theorem sc_setlo : ∀ (b : Bx) (k : Nat) (u : Int), k < b.length → splice (scells b) (k * 2) [.val (.int .i64 u)] = scells (b.set k (u, hi b k))
  | [], k, _, h => by simp at h
  | x :: b, 0, u, _ => rfl
  | x :: b, k + 1, u, h => by
    have := sc_setlo b k u (by simpa using h)
    rw [show (k + 1) * 2 = k * 2 + 1 + 1 by omega]
    simp only [scells, splice_cons, this, List.set_cons_succ]
    rfl
theorem sc_sethi : ∀ (b : Bx) (k : Nat) (v : Int), k < b.length → splice (scells b) (k * 2 + 1) [.val (.int .i64 v)] = scells (b.set k (lo b k, v))
  | [], k, _, h => by simp at h
  | x :: b, 0, v, _ => rfl
  | x :: b, k + 1, v, h => by
    have := sc_sethi b k v (by simpa using h)
    rw [show (k + 1) * 2 + 1 = k * 2 + 1 + 1 + 1 by omega]
    simp only [scells, splice_cons, this, List.set_cons_succ]
    rfl
theorem sc_t2 (b : Bx) (k : Nat) (u v : Int) (h : k < b.length) : (scells b).take (k * 2) ++ [.val (.int .i64 u), .val (.int .i64 v)] ++ (scells b).drop (k * 2 + 2) = scells (b.set k (u, v)) := sc_set2 b k u v h
theorem sc_tlo (b : Bx) (k : Nat) (u : Int) (h : k < b.length) : (scells b).take (k * 2) ++ [.val (.int .i64 u)] ++ (scells b).drop (k * 2 + 1) = scells (b.set k (u, hi b k)) := sc_setlo b k u h
theorem sc_thi (b : Bx) (k : Nat) (v : Int) (h : k < b.length) : (scells b).take (k * 2 + 1) ++ [.val (.int .i64 v)] ++ (scells b).drop (k * 2 + 1 + 1) = scells (b.set k (lo b k, v)) := sc_sethi b k v h
theorem sc_t3 (b : Bx) (k : Nat) (u w v : Int) (h : k < b.length) : (scells (b.set k (u, w))).take (k * 2 + 1) ++ [.val (.int .i64 v)] ++ (scells (b.set k (u, w))).drop (k * 2 + 1 + 1) = scells (b.set k (u, v)) := by
  have h1 := sc_sethi (b.set k (u, w)) k v (by simpa using h)
  have h2 : lo (b.set k (u, w)) k = u := by simp [lo, h]
  rw [h2, List.set_set] at h1
  exact h1
theorem sc_lo2 (b : Bx) (k : Nat) (u v : Int) (h : k < b.length) : (scells (b.set k (u, v)))[k * 2]? = some (.val (.int .i64 u)) := by
  rw [sc_lo _ k (by simpa using h)]; simp [lo, h]
theorem sc_hi2 (b : Bx) (k : Nat) (u v : Int) (h : k < b.length) : (scells (b.set k (u, v)))[k * 2 + 1]? = some (.val (.int .i64 v)) := by
  rw [sc_hi _ k (by simpa using h)]; simp [hi, h]
theorem bcells_app (l : List Bx) (b : Bx) : bcells l ++ [.list (sps b)] = bcells (l ++ [b]) := by simp [bcells]
theorem lo_set (b : Bx) (k : Nat) (u v : Int) (h : k < b.length) : lo (b.set k (u, v)) k = u := by simp [lo, h]
theorem hi_set (b : Bx) (k : Nat) (u v : Int) (h : k < b.length) : hi (b.set k (u, v)) k = v := by simp [hi, h]
theorem lo_set_ne (b : Bx) (k j : Nat) (x : Int × Int) (h : k ≠ j) : lo (b.set k x) j = lo b j := by simp [lo, List.getElem?_set_ne h]
theorem hi_set_ne (b : Bx) (k j : Nat) (x : Int × Int) (h : k ≠ j) : hi (b.set k x) j = hi b j := by simp [hi, List.getElem?_set_ne h]

/-! ### what the functions compute -/
def okS (x : Int × Int) : Bool := decide (-1000000 ≤ x.1) && decide (x.1 ≤ x.2) && decide (x.2 ≤ 1000000)
def boxE (b : Bx) : Int := if 1 ≤ b.length ∧ b.length ≤ 3 ∧ b.all okS = true then 0 else 10
/-- numbers of a box are small -/
def Sm (b : Bx) : Prop := ∀ k, -1000001 ≤ lo b k ∧ lo b k ≤ 1000001 ∧ -1000001 ≤ hi b k ∧ hi b k ≤ 1000001
structure OkB (b : Bx) : Prop where
  pos : 1 ≤ b.length
  len : b.length ≤ 3
  low : ∀ k, k < b.length → -1000000 ≤ lo b k
  le : ∀ k, k < b.length → lo b k ≤ hi b k
  high : ∀ k, k < b.length → hi b k ≤ 1000000
theorem boxE_zero {b : Bx} (h : boxE b = 0) : OkB b := by
  unfold boxE at h
  split at h
  · rename_i hc
    obtain ⟨h1, h2, h3⟩ := hc
    have key : ∀ k (hk : k < b.length), -1000000 ≤ lo b k ∧ lo b k ≤ hi b k ∧ hi b k ≤ 1000000 := fun k hk => by
      have := List.all_eq_true.1 h3 b[k] (List.getElem_mem hk)
      simp only [okS, Bool.and_eq_true, decide_eq_true_eq] at this
      simp only [lo, hi, hk, List.getElem?_eq_getElem, Option.getD_some]
      exact ⟨this.1.1, this.1.2, this.2⟩
    exact ⟨h1, h2, fun k hk => (key k hk).1, fun k hk => (key k hk).2.1, fun k hk => (key k hk).2.2⟩
  · omega
theorem boxE_two (b : Bx) : boxE b = 0 ∨ boxE b = 10 := by unfold boxE; split <;> simp
/-- at dimension d: the part below, the part above, what goes on -/
def pLow (l b : Bx) (d : Nat) : Int × Int := (lo l d, if lo b d - 1 < hi l d then lo b d - 1 else hi l d)
def pHigh (l b : Bx) (d : Nat) : Int × Int := (if hi b d + 1 > lo l d then hi b d + 1 else lo l d, hi l d)
def pMid (l b : Bx) (d : Nat) : Int × Int := (if lo b d > lo l d then lo b d else lo l d, if hi b d < hi l d then hi b d else hi l d)
def cut1 (l : Bx) (d : Nat) (x : Int × Int) : List Bx := if x.1 > x.2 then [] else [l.set d x]
def mnGo (b : Bx) : Nat → Bx → Nat → List Bx
  | 0, _, _ => []
  | n + 1, l, d => (cut1 l d (pLow l b d) ++ cut1 l d (pHigh l b d)) ++ (if (pMid l b d).1 > (pMid l b d).2 then [] else mnGo b n (l.set d (pMid l b d)) (d + 1))
def mnL (a b : Bx) : List Bx := mnGo b a.length a 0
end Go.Proofs.Ytfaiogajaaclcaa
