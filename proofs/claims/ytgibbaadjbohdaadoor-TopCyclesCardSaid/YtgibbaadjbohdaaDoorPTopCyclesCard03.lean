/- Texts of the law TopCyclesCard, part 3. No conditions. -/
import Derived.Test.YtgibbaadjbohdaaDoorPTopCyclesCard02
import Derived.Test.YtgibbaadjbohdaaDoorRows
set_option linter.unusedSimpArgs false
set_option linter.unusedVariables false
/- Lists of numbers, rows and spans as abstract values. No conditions. -/
namespace Go.Proofs.YtgibbaadjbohdaaDoor
open Go.RowKit Lift

def dI (n : Int) : D := .val (.int .i64 n)
def dB (b : Bool) : D := .val (.bool b)
def ints (l : List Int) : List (List D) := l.map fun n => [.val (.int .i64 n)]
def rows (l : List (List Int)) : List (List D) := l.map fun r => [.list (ints r)]
def tabD (xs ys : List Int) (vs : List (List Int)) : D := .agg [.list (ints xs), .list (ints ys), .list (rows vs)]
def spD (x : Int × Int) : D := .agg [.val (.int .i64 x.1), .val (.int .i64 x.2)]
theorem ints_len (l : List Int) : (ints l).length = l.length := by simp [ints]
theorem rows_len (l : List (List Int)) : (rows l).length = l.length := by simp [rows]
theorem ints_get (l : List Int) (k : Nat) (h : k < (ints l).length) : (ints l)[k] = [.val (.int .i64 (l[k]?.getD 0))] := by
  have h' : k < l.length := by simpa [ints] using h
  simp [ints, h']
theorem rows_get (l : List (List Int)) (k : Nat) (h : k < (rows l).length) : (rows l)[k] = [.list (ints (l[k]?.getD []))] := by
  have h' : k < l.length := by simpa [rows] using h
  simp [rows, h']
theorem ints_all (l : List Int) : (ints l).all (fun x => x.length == 1) = true := by simp [ints]
theorem rows_all (l : List (List Int)) : (rows l).all (fun x => x.length == 1) = true := by simp [rows]
def icells (l : List Int) : List D := l.map fun n => .val (.int .i64 n)
def rcells (l : List (List Int)) : List D := l.map fun r => .list (ints r)
theorem ints_flat (l : List Int) : (ints l).flatten = icells l := by
  induction l with
  | nil => rfl
  | cons x l ih => simp [ints, icells] at ih ⊢; exact ih
theorem icells_in (l : List Int) : ∀ d ∈ icells l, In (fun _ => False) d := by
  intro d hd; obtain ⟨x, _, rfl⟩ := List.mem_map.1 hd; exact .val _
theorem rcells_in (l : List (List Int)) : ∀ d ∈ rcells l, In (fun _ => False) d := by
  intro d hd; obtain ⟨x, _, rfl⟩ := List.mem_map.1 hd; exact .list _
theorem icells_len (l : List Int) : (icells l).length = l.length := by simp [icells]
theorem ints_one (l : List Int) : ∀ e ∈ ints l, e.length = 1 := by simp [ints]
theorem rows_one (l : List (List Int)) : ∀ e ∈ rows l, e.length = 1 := by simp [rows]
theorem ints_gd (l : List Int) (k : Nat) (h : k < l.length) : (ints l)[k]? = some [.val (.int .i64 (l[k]?.getD 0))] := by simp [ints, h]
theorem rows_gd (l : List (List Int)) (k : Nat) (h : k < l.length) : (rows l)[k]? = some [.list (ints (l[k]?.getD []))] := by simp [rows, h]
end Go.Proofs.YtgibbaadjbohdaaDoor
/- A recorder's layout, its frames and samples, in numbers. No conditions. -/
namespace Go.Proofs.YtgibbaadjbohdaaDoor
open Go.RowKit Lift

structure Fl where
  word : Int
  bit : Int
  size : Int
  sgn : Bool
  num : Int
  den : Int
  add : Int
  every : Int
  phase : Int
structure Lay where
  words : Int
  s0 : Int
  s1 : Int
  s2 : Int
  s3 : Int
  fl : List Fl
def fl0 : Fl := ⟨0, 0, 0, false, 0, 0, 0, 0, 0⟩
def sync (l : Lay) : List Int := [l.s0, l.s1, l.s2, l.s3]

structure FOk (w : Int) (f : Fl) : Prop where
  w1 : 1 ≤ f.word
  w2 : f.word ≤ w - 1
  b1 : 0 ≤ f.bit
  s1 : 1 ≤ f.size
  bs : f.bit + f.size ≤ 12
  n1 : -1000 ≤ f.num
  n2 : f.num ≤ 1000
  d1 : 1 ≤ f.den
  d2 : f.den ≤ 1000
  a1 : -1000000 ≤ f.add
  a2 : f.add ≤ 1000000
  ev : f.every = 1 ∨ f.every = 2 ∨ f.every = 4
  p1 : 0 ≤ f.phase
  p2 : f.phase ≤ f.every - 1
def inSub (f : Fl) (s : Int) : Prop := s.tmod f.every = f.phase
instance (f : Fl) (s : Int) : Decidable (inSub f s) := inferInstanceAs (Decidable (_ = _))
def Ovl (f g : Fl) : Prop := f.word = g.word ∧ f.bit < g.bit + g.size ∧ g.bit < f.bit + f.size
structure LayOk (l : Lay) : Prop where
  w1 : 2 ≤ l.words
  w2 : l.words ≤ 32
  nf : l.fl.length ≤ 16
  sy : ∀ k, k < 4 → 0 ≤ (sync l)[k]?.getD 0 ∧ (sync l)[k]?.getD 0 ≤ 4095
  sd : ∀ i, i < 4 → ∀ k, k < i → (sync l)[i]?.getD 0 ≠ (sync l)[k]?.getD 0
  fo : ∀ k, k < l.fl.length → FOk l.words (l.fl[k]?.getD fl0)
  ov : ∀ i, i < l.fl.length → ∀ k, k < i → ∀ s : Nat, s < 4 → inSub (l.fl[i]?.getD fl0) s → inSub (l.fl[k]?.getD fl0) s → ¬ Ovl (l.fl[i]?.getD fl0) (l.fl[k]?.getD fl0)
def rawU (f : Fl) (w : Nat) : Nat := w / 2 ^ f.bit.toNat % 2 ^ f.size.toNat
def rawI (f : Fl) (w : Nat) : Int := if f.sgn = true ∧ 2 ^ (f.size.toNat - 1) ≤ rawU f w then (rawU f w : Int) - 2 ^ f.size.toNat else rawU f w
def valI (f : Fl) (r : Int) : Int := f.add * f.den + r * f.num
def wOk (x : Int) : Bool := decide (0 ≤ x) && decide (x ≤ 4095)
def frOk (l : Lay) (fr : List Int) : Prop := (fr.length : Int) = l.words ∧ fr.all wOk = true
instance (l : Lay) (fr : List Int) : Decidable (frOk l fr) := inferInstanceAs (Decidable (_ ∧ _))
def idx4 (l : Lay) (x : Int) : Int := if x = l.s0 then 0 else if x = l.s1 then 1 else if x = l.s2 then 2 else if x = l.s3 then 3 else -1
def subF (l : Lay) (fr : List Int) : Int := if frOk l fr then idx4 l (fr[0]?.getD 0) else -1
def smp (l : Lay) (f : Fl) (fr : List Int) : Option Int := if 0 ≤ subF l fr ∧ inSub f (subF l fr) then some (valI f (rawI f (fr[f.word.toNat]?.getD 0).toNat)) else none
def frm (frs : List (List Int)) (k : Nat) : List Int := frs[k]?.getD []
end Go.Proofs.YtgibbaadjbohdaaDoor
/- Conditions and events over frames, in numbers. No conditions. -/
namespace Go.Proofs.YtgibbaadjbohdaaDoor
open Go.RowKit Lift

structure Cd where
  field : Int
  lim : Int
  above : Bool
def cndV (c : Cd) (f : Fl) (v : Int) : Bool := if c.above = true then decide (v ≥ c.lim * f.den) else decide (v ≤ c.lim * f.den)

section
variable (l : Lay) (frs : List (List Int)) (c : Cd) (f : Fl)
def hAt : Nat → Nat → Bool
  | 0, _ => false
  | k + 1, j => match smp l f (frm frs k) with
    | some v => if k ≤ j ∧ (j : Int) < k + f.every then cndV c f v else hAt k j
    | none => hAt k j
variable {l frs c f}
variable (l frs c f)
variable {l frs c f}
variable (l frs c f)
def hL (n k : Nat) : List Bool := (List.range n).map fun j => hAt l frs c f k j
end
def bools (l : List Bool) : List (List D) := l.map fun b => [dB b]
def bcl (l : List Bool) : List D := l.map dB
theorem bools_len (l : List Bool) : (bools l).length = l.length := by simp [bools]
theorem bools_all (l : List Bool) : (bools l).all (fun x => x.length == 1) = true := by simp [bools]
theorem bools_one (l : List Bool) : ∀ e ∈ bools l, e.length = 1 := by
  intro e he; obtain ⟨b, _, rfl⟩ := List.mem_map.1 he; rfl
theorem bools_gd (l : List Bool) (k : Nat) (h : k < l.length) : (bools l)[k]? = some [dB (l[k]?.getD false)] := by simp [bools, h]
theorem bools_flat (l : List Bool) : (bools l).flatten = bcl l := by
  induction l with
  | nil => rfl
  | cons x l ih => simp [bools, bcl] at ih ⊢; exact ih
theorem bcl_len (l : List Bool) : (bcl l).length = l.length := by simp [bcl]
theorem bcl_in (l : List Bool) : ∀ d ∈ bcl l, In (fun _ => False) d := by
  intro d hd; obtain ⟨x, _, rfl⟩ := List.mem_map.1 hd; exact .val _
/-! ### events -/
section
variable (is : Nat → Bool) (H : Int)
/-! ### what is found -/
end
end Go.Proofs.YtgibbaadjbohdaaDoor
/- Lists of numbers and truth values in memory. No conditions. -/
namespace Go.Proofs.YtgibbaadjbohdaaDoor
open Go.RowKit Lift

theorem ic_gd (l : List Int) (k : Nat) (h : k < l.length) : (icells l)[k]? = some (.val (.int .i64 (l[k]?.getD 0))) := by simp [icells, h]
theorem ic_t (l : List Int) (k : Nat) (v : Int) (h : k < l.length) : (icells l).take k ++ [.val (.int .i64 v)] ++ (icells l).drop (k + 1) = icells (l.set k v) := by
  unfold icells
  rw [List.map_set, ← List.map_take, ← List.map_drop, List.set_eq_take_append_cons_drop, if_pos (by simpa using h)]
  simp
theorem bc_t (l : List Bool) (k : Nat) (v : Bool) (h : k < l.length) : (bcl l).take k ++ [.val (.bool v)] ++ (bcl l).drop (k + 1) = bcl (l.set k v) := by
  unfold bcl
  rw [List.map_set, ← List.map_take, ← List.map_drop, List.set_eq_take_append_cons_drop, if_pos (by simpa using h)]
  simp [dB]
theorem bc_gd (l : List Bool) (k : Nat) (h : k < l.length) : (bcl l)[k]? = some (.val (.bool (l[k]?.getD false))) := by simp [bcl, dB, h]
theorem ic_take (l : List Int) (n : Nat) (h : l.length = n) : (icells l).take n = icells l := List.take_of_length_le (by rw [icells_len]; omega)
theorem bc_take (l : List Bool) (n : Nat) (h : l.length = n) : (bcl l).take n = bcl l := List.take_of_length_le (by rw [bcl_len]; omega)
theorem vec_ints {H : Heap} {V : List Nat} {g n : Nat} (L : List Int) (hg : g ∈ V) (hH : H g = some (icells L)) (hl : L.length = n) : Vw H V (.vec g n 1) (.list (ints L)) :=
  .vec g n 1 (icells L) (ints L) hg hH (by rw [icells_len]; omega) (ints_one L) (by rw [ints_len, hl]) (by rw [Nat.mul_one, ic_take L n hl, ints_flat]) (icells_in L)
theorem vec_bools {H : Heap} {V : List Nat} {g n : Nat} (L : List Bool) (hg : g ∈ V) (hH : H g = some (bcl L)) (hl : L.length = n) : Vw H V (.vec g n 1) (.list (bools L)) :=
  .vec g n 1 (bcl L) (bools L) hg hH (by rw [bcl_len]; omega) (bools_one L) (by rw [bools_len, hl]) (by rw [Nat.mul_one, bc_take L n hl, bools_flat]) (bcl_in L)
end Go.Proofs.YtgibbaadjbohdaaDoor
/- Within. No conditions. -/
namespace Go.Proofs.YtgibbaadjbohdaaDoor
open Go.RowKit Lift

def wI (n a b : Int) : Bool := decide (a ≤ n) && decide (n ≤ b)
theorem wI_t {n a b : Int} (h : wI n a b = true) : a ≤ n ∧ n ≤ b := by simpa [wI] using h
end Go.Proofs.YtgibbaadjbohdaaDoor
/- Boxes as abstract values; what is left of a box without another one. No conditions. -/
namespace Go.Proofs.YtgibbaadjbohdaaDoor
open Go.RowKit Lift

abbrev Bx := List (Int × Int)
def sps (b : Bx) : List (List D) := b.map fun x => [.val (.int .i64 x.1), .val (.int .i64 x.2)]
def scells : Bx → List D
  | [] => []
  | x :: b => .val (.int .i64 x.1) :: .val (.int .i64 x.2) :: scells b
def bcells (l : List Bx) : List D := l.map fun b => .list (sps b)
def lo (b : Bx) (k : Nat) : Int := (b[k]?.getD (0, 0)).1
def hi (b : Bx) (k : Nat) : Int := (b[k]?.getD (0, 0)).2
theorem sps_len (b : Bx) : (sps b).length = b.length := by simp [sps]
theorem sps_all (b : Bx) : (sps b).all (fun x => x.length == 2) = true := by simp [sps]
theorem sps_two (b : Bx) : ∀ e ∈ sps b, e.length = 2 := by intro e he; obtain ⟨x, _, rfl⟩ := List.mem_map.1 he; rfl
theorem sps_flat (b : Bx) : (sps b).flatten = scells b := by
  induction b with
  | nil => rfl
  | cons x b ih => simp [sps, scells] at ih ⊢; exact ih
theorem scells_len (b : Bx) : (scells b).length = b.length * 2 := by
  induction b with
  | nil => rfl
  | cons x b ih => simp [scells, ih]; omega
theorem scells_mem {b : Bx} : ∀ {d : D}, d ∈ scells b → ∃ n, d = .val (.int .i64 n) := by
  induction b with
  | nil => intro d h; simp [scells] at h
  | cons x b ih =>
    intro d h
    simp only [scells, List.mem_cons] at h
    rcases h with rfl | rfl | h
    · exact ⟨_, rfl⟩
    · exact ⟨_, rfl⟩
    · exact ih h
theorem scells_in (b : Bx) : ∀ d ∈ scells b, In (fun _ => False) d := fun d hd => by obtain ⟨n, rfl⟩ := scells_mem hd; exact .val _
theorem bcells_in (l : List Bx) : ∀ d ∈ bcells l, In (fun _ => False) d := by
  intro d hd; obtain ⟨x, _, rfl⟩ := List.mem_map.1 hd; exact .list _
theorem scells_leaf (b : Bx) : (scells b).all D.leaf = true := List.all_eq_true.2 fun d hd => by obtain ⟨n, rfl⟩ := scells_mem hd; rfl
theorem sps_gd (b : Bx) (k : Nat) (h : k < b.length) : (sps b)[k]? = some [.val (.int .i64 (lo b k)), .val (.int .i64 (hi b k))] := by simp [sps, lo, hi, h]
/-! ### what the functions compute -/
def okS (x : Int × Int) : Bool := decide (-1000000 ≤ x.1) && decide (x.1 ≤ x.2) && decide (x.2 ≤ 1000000)
def boxE (b : Bx) : Int := if 1 ≤ b.length ∧ b.length ≤ 3 ∧ b.all okS = true then 0 else 10
structure OkB (b : Bx) : Prop where
  pos : 1 ≤ b.length
  len : b.length ≤ 3
  low : ∀ k, k < b.length → -1000000 ≤ lo b k
  le : ∀ k, k < b.length → lo b k ≤ hi b k
  high : ∀ k, k < b.length → hi b k ≤ 1000000
end Go.Proofs.YtgibbaadjbohdaaDoor
/- What comes behind a region, hidden while the region is walked. No conditions. -/
namespace Go.Proofs.YtgibbaadjbohdaaDoor.Lift
open Go Go.RowKit

theorem aw_hide {rd : Rd} {P : Program} {n : Nat} {pre : List Nat} {Q : AExit → St → Prop} {s : St} {x : ACode} (h : ∀ K : AExit → St → Prop, K = Q → AWb rd P n pre x K s) : AWb rd P n pre x Q s := h Q rfl
section
variable {K : St → Prop} {Q : AExit → St → Prop} {s : St}
theorem thenQ_n (h : K s) : thenQ K Q .norm s := h
theorem thenQ_e {i : Nat} (h : Q (.ex i) s) : thenQ K Q (.ex i) s := h
theorem blockQ_n {id : Nat} (h : Q .norm s) : blockQ id Q .norm s := h
theorem blockQ_t {id : Nat} (h : Q .norm s) : blockQ id Q (.ex id) s := by simp only [blockQ, if_true]; exact h
theorem blockQ_f {id i : Nat} (hn : i ≠ id) (h : Q (.ex i) s) : blockQ id Q (.ex i) s := by simp only [blockQ]; rw [if_neg hn]; exact h
end
end Go.Proofs.YtgibbaadjbohdaaDoor.Lift
/- Calls that change objects, checked by computing. No conditions. -/
namespace Go.Proofs.YtgibbaadjbohdaaDoor.Lift
open Go Go.RowKit

theorem aw_condT {rd : Rd} {P : Program} {n : Nat} {pre : List Nat} {Q : AExit → St → Prop} {s : St} {c : Operand} {x y : ACode} (hb : s.F.ev c = .val (.bool true)) (h : AWb rd P n pre x Q s) : AWb rd P n pre (.cond c x y) Q s := aw_cond hb (fun _ => h) (fun h => nomatch h)
theorem aw_condF {rd : Rd} {P : Program} {n : Nat} {pre : List Nat} {Q : AExit → St → Prop} {s : St} {c : Operand} {x y : ACode} (hb : s.F.ev c = .val (.bool false)) (h : AWb rd P n pre y Q s) : AWb rd P n pre (.cond c x y) Q s := aw_cond hb (fun h => nomatch h) (fun _ => h)
def HasAll (hp : Hp) : Hp → Prop
  | [] => True
  | x :: l => hget hp x.1 = some x.2 ∧ HasAll hp l
theorem HasAll.get {hp : Hp} : ∀ {h : Hp}, HasAll hp h → ∀ x ∈ h, hget hp x.1 = some x.2
  | [], _, x, hx => by simp at hx
  | y :: l, h, x, hx => by
    rcases List.mem_cons.1 hx with rfl | hx
    · exact h.1
    · exact HasAll.get h.2 x hx
def newOk (hp h : Hp) (up : Ups) : Bool := up.all fun x => (h.map (·.1)).contains x.1 || (hget hp x.1).isNone
theorem newOk_get {hp h : Hp} {up : Ups} (hk : newOk hp h up = true) : ∀ g ∈ up.map (·.1), g ∉ h.map (·.1) → hget hp g = none := fun g hg hn => by
  obtain ⟨x, hx, rfl⟩ := List.mem_map.1 hg
  have := List.all_eq_true.1 hk x hx
  simp only [Bool.or_eq_true, List.contains_iff_mem, Option.isNone_iff_eq_none] at this
  exact this.resolve_left hn
theorem vr_valq {H : Heap} {V : List Nat} {m : List (Nat × Nat)} {v v' : Value} (h : v = v') : VR H V m (.val v) (.val v') := h ▸ vr_val v
theorem vr_listq {H : Heap} {V : List Nat} {m : List (Nat × Nat)} {l l' : List (List D)} (h : l = l') : VR H V m (.list l) (.list l') := h ▸ vr_list l
section
variable {P : Program} {dr : Bool} {b : Nat} {Q : St → Prop} {dst : Option Nat} {anc : List Nat} {l : List AOper} {k : Nat} {s : St} {log : Lg}
theorem acallB {f : FuncId} {first caps args : List D} {d : D} {h : Hp} {up : Ups} (hA : AC P f (first ++ args ++ caps) h up d) (hh : HasAll s.hp h) (hf : newOk s.hp h up = true) (hn : okNew s.hp (b + 8 * k) (up.map (·.1)) = true)
    (hl : okLog dr log anc (h.map (·.1) ++ []) (up.map (·.1)) = true) (hK : ARun P dr b Q l (k + 1) (s.app dst d up) ((k, h.map (·.1) ++ [], up.map (·.1)) :: log)) : ACallK P dr b Q (.fn f first caps) args dst anc l k s log :=
  acallH hA [] (VwL.refl _) (.inl rfl) (by simp) (by simp) hh.get (newOk_get hf) hn hl hK
end
end Go.Proofs.YtgibbaadjbohdaaDoor.Lift
/- A call that takes one slice of one's own, to look at. No conditions. -/
namespace Go.Proofs.YtgibbaadjbohdaaDoor.Lift
open Go Go.RowKit

theorem flat_len {sz : Nat} : ∀ l : List (List D), (∀ e ∈ l, e.length = sz) → l.flatten.length = l.length * sz
  | [], _ => by simp
  | x :: l, h => by
    simp only [List.flatten_cons, List.length_append, List.length_cons, flat_len l fun e he => h e (List.mem_cons_of_mem _ he), h x (List.mem_cons_self ..)]
    rw [Nat.succ_mul]; omega
section
variable {P : Program} {dr : Bool} {b : Nat} {Q : St → Prop} {dst : Option Nat} {anc : List Nat} {l : List AOper} {k : Nat} {s : St} {log : Lg}
theorem acallV1 {f : FuncId} {g n sz : Nat} {L : List (List D)} {c : List D} {d : D} (hA : AC P f [.list L] [] [] d) (hF : Flat d) (hc : hget s.hp g = some c) (h4 : ∀ e ∈ L, e.length = sz) (h5 : L.length = n) (h6 : L.flatten = c) (h7 : ∀ x ∈ c, In (fun _ => False) x)
    (hl : okLog dr log anc [g] [] = true) (h : ARun P dr b Q l (k + 1) (s.app dst d []) ((k, [g], []) :: log)) : ACallK P dr b Q (.fn f [] []) [.vec g n sz] dst anc l k s log :=
  acall (args' := [.list L]) hA [g] ⟨by
    have := flat_len L h4
    rw [h6, h5] at this
    exact .vec g n sz c L (List.mem_singleton.2 rfl) hc (by omega) h4 h5 (by rw [h6, List.take_of_length_le (by omega)]) h7, trivial⟩ (.inr hF) (fun x hx => by rw [List.mem_singleton.1 hx]; exact ⟨c, hc⟩) hl h
end
end Go.Proofs.YtgibbaadjbohdaaDoor.Lift
/- parts: a register and a hangar, in numbers. No conditions. -/
namespace Go.Proofs.YtgibbaadjbohdaaDoor
open Go Go.RowKit Lift

def w64 (x : Int) : Int := IntKind.i64.wrap x
structure Kd where
  h : Int
  c : Int
  p : Int
structure P0 where
  kd : Int
  h : Int
  c : Int
  kn : Bool
structure Reg where
  ks : List Kd
  ps : List P0
  ms : Int
  os : List (Int × Int)
def kdC (k : Kd) : List D := [dI k.h, dI k.c, dI k.p]
def p0C (p : P0) : List D := [dI p.kd, dI p.h, dI p.c, dB p.kn]
def odC (o : Int × Int) : List D := [dI o.1, dI o.2]
def kds (l : List Kd) : List (List D) := l.map kdC
def p0s (l : List P0) : List (List D) := l.map p0C
def ods (l : List (Int × Int)) : List (List D) := l.map odC
def regC (r : Reg) : List D := [.list (kds r.ks), .list (p0s r.ps), dI r.ms, .list (ods r.os)]
def regD (r : Reg) : D := .agg (regC r)
theorem kds_len (l : List Kd) : (kds l).length = l.length := by simp [kds]
theorem p0s_len (l : List P0) : (p0s l).length = l.length := by simp [p0s]
theorem ods_len (l : List (Int × Int)) : (ods l).length = l.length := by simp [ods]
def kdB (k : Kd) : Bool := wI k.h 1 100000 && wI k.c 1 100000 && wI k.p 0 4
def kinB (r : Reg) (n : Int) : Bool := wI n 0 (w64 (r.ks.length - 1))
def p0B (r : Reg) (p : P0) : Bool := kinB r p.kd && wI p.h 0 100000 && wI p.c 0 100000
def odB (r : Reg) (o : Int × Int) : Bool := kinB r o.1 && wI o.2 0 100000
def validB (r : Reg) : Bool := !(decide ((r.ks.length : Int) > 6) || decide ((r.ps.length : Int) > 24) || decide ((r.os.length : Int) > 6) || !wI r.ms 0 4) && (!(r.ks.any fun k => !kdB k) && !(r.ps.any fun p => !p0B r p) && !(r.os.any fun o => !odB r o))

/-! ### views of nested objects -/
def inF : D → Bool
  | .val _ | .list _ | .at_ _ | .bot | .cap0 => true
  | .fn _ k l => (k ++ l).all fun d => match d with
    | .val _ | .list _ | .at_ _ | .bot | .cap0 => true
    | _ => false
  | _ => false
theorem inF_in {S : Nat → Prop} {d : D} (h : inF d = true) : In S d := by
  cases d with
  | val v => exact .val v
  | list l => exact .list l
  | at_ l => exact .at_ l
  | bot => exact .bot
  | cap0 => exact .cap0
  | fn f k l =>
    simp only [inF, List.all_eq_true] at h
    have key : ∀ d, d ∈ k ++ l → In S d := fun d hd => by
      have := h d hd
      cases d with
      | val v => exact .val v
      | list l => exact .list l
      | at_ l => exact .at_ l
      | bot => exact .bot
      | cap0 => exact .cap0
      | _ => simp at this
    exact .fn f k l (fun d hd => key d (by simp [hd])) (fun d hd => key d (by simp [hd]))
  | _ => simp [inF] at h
section
variable {H : Heap} {V : List Nat}
theorem vw_fn1 {f : FuncId} {a b : D} (h : Vw H V a b) : Vw H V (.fn f [] [a]) (.fn f [] [b]) :=
  .fn f [] [a] [] [b] rfl (fun i hi => by simp at hi) rfl fun i hi hi' => by
    have : i = 0 := by simpa using hi
    subst this; exact h
theorem vw_fn2 {f : FuncId} {a b a' b' : D} (h : Vw H V a b) (h' : Vw H V a' b') : Vw H V (.fn f [] [a, a']) (.fn f [] [b, b']) :=
  .fn f [] [a, a'] [] [b, b'] rfl (fun i hi => by simp at hi) rfl fun i hi hi' => by
    rcases (by simp at hi; omega : i = 0 ∨ i = 1) with rfl | rfl
    · exact h
    · exact h'
theorem vw_obj {g : Nat} {c l : List D} (hg : g ∈ V) (hc : H g = some c) (hl : VwL H V c l) (hin : l.all inF = true) : Vw H V (.ptr g 0) (.at_ l) := by
  obtain ⟨h1, h2⟩ := hl.get
  refine .ptrN g 0 c l hg hc (by omega) (fun i hi hi' => ?_) fun d hd => inF_in (List.all_eq_true.1 hin d hd)
  have := h2 i (by omega) hi
  simpa using this
theorem vw_vec1 {g n : Nat} {c l : List D} (hg : g ∈ V) (hc : H g = some c) (hl : VwL H V c l) (hn : l.length = n) (hin : l.all inF = true) : Vw H V (.vec g n 1) (.list (l.map fun d => [d])) := by
  obtain ⟨h1, h2⟩ := hl.get
  have hf : (l.map fun d => [d]).flatten = l := by
    clear hl h1 h2 hn hin
    induction l with
    | nil => rfl
    | cons a l ih => simp at ih ⊢; exact ih
  refine .vecN g n 1 c _ hg hc (by omega) (by simp) (by simpa using hn) (fun i hi hi' => ?_) fun d hd => ?_
  · simp only [hf] at hi ⊢
    exact h2 i (by omega) hi
  · rw [hf] at hd
    exact inF_in (List.all_eq_true.1 hin d hd)
end
end Go.Proofs.YtgibbaadjbohdaaDoor
/- The functions' bodies, translated. Written by a program; no conditions. -/
namespace Go.Proofs.YtgibbaadjbohdaaDoor
open Go.RowKit Lift

def cparts_within : ACode :=
 (.seq
 (.region false [oo 6 (.mv (.const (.bool false)))] [])
 (.seq
 (.region false [oo 7 (.mv (.tmp 0)),
 oo 8 (.mv (.tmp 1)),
 oo 9 (.bin .geq (.tmp 7) (.tmp 8)),
 oo 10 (.mv (.tmp 9)),
 og 11 10 true (.mv (.tmp 0)) [],
 og 12 10 true (.mv (.tmp 2)) [],
 og 13 10 true (.bin .leq (.tmp 11) (.tmp 12)) [],
 oo 14 (.pick (.tmp 10) (.tmp 13) (.const (.bool false))),
 oo 6 (.mv (.tmp 14))] [7,8,9,10,11,12,13,14])
 .ret))
set_option maxRecDepth 100000 in
theorem kparts_within : IsCode Tryd.prog 32 15 cparts_within [.tmp 6] :=
 ⟨Tryd.f32, _, [0,1,2,6], Tryd.func32, rfl, by decide, rfl, by kernel_rfl, by kernel_rfl⟩
def cparts_valid_S1 : ACode :=
 (.seq
 (.region false [oo 3 (.mv (.const (.bool false)))] [])
 (.seq
 (.region false [oo 4 (.mv (.tmp 0)),
 oo 5 (.fad 0 (.tmp 1)),
 oo 6 (.load1 (.tmp 5)),
 oo 7 (.len_ (.tmp 6)),
 oo 8 (.bin .sub (.tmp 7) (kI 1)),
 oo 9 (.call (.func 32) [(.tmp 4), (kI 0), (.tmp 8)]),
 oo 3 (.mv (.tmp 9))] [4,5,6,7,8,9])
 .ret))
set_option maxRecDepth 100000 in
theorem kparts_valid_S1 : IsCode Tryd.prog 40 10 cparts_valid_S1 [.tmp 3] :=
 ⟨Tryd.f40, _, [0,1,3], Tryd.func40, rfl, by decide, rfl, by kernel_rfl, by kernel_rfl⟩
def cparts_valid_S2 : ACode :=
 (.seq
 (.region false [oo 1 (.box (.tmp 0)),
 oo 2 (.mv (.const (.bool false)))] [])
 (.seq
 (.region false [oo 3 (.fad 0 (.tmp 1)),
 oo 4 (.load1 (.tmp 3)),
 oo 5 (.call (.func 32) [(.tmp 4), (kI 1), (kI 100000)]),
 oo 6 (.un .not (.tmp 5)),
 oo 7 (.mv (.tmp 6)),
 og 8 7 false (.fad 1 (.tmp 1)) [],
 og 9 7 false (.load1 (.tmp 8)) [],
 og 10 7 false (.call (.func 32) [(.tmp 9), (kI 1), (kI 100000)]) [],
 og 11 7 false (.un .not (.tmp 10)) [],
 oo 12 (.pick (.tmp 7) (.const (.bool true)) (.tmp 11)),
 oo 13 (.mv (.tmp 12)),
 og 14 13 false (.fad 2 (.tmp 1)) [],
 og 15 13 false (.load1 (.tmp 14)) [],
 og 16 13 false (.call (.func 32) [(.tmp 15), (kI 0), (kI 4)]) [],
 og 17 13 false (.un .not (.tmp 16)) [],
 oo 18 (.pick (.tmp 13) (.const (.bool true)) (.tmp 17)),
 oo 2 (.mv (.tmp 18))] [3,4,5,6,7,8,9,10,11,12,13,14,15,16,17,18])
 .ret))
set_option maxRecDepth 100000 in
theorem kparts_valid_S2 : IsCode Tryd.prog 42 19 cparts_valid_S2 [.tmp 2] :=
 ⟨Tryd.f42, _, [0,1,2], Tryd.func42, rfl, by decide, rfl, by kernel_rfl, by kernel_rfl⟩
def cparts_valid_S3 : ACode :=
 (.seq
 (.region false [oo 2 (.box (.tmp 0)),
 oo 3 (.mv (.const (.bool false)))] [])
 (.seq
 (.region false [oo 4 (.load1 (.tmp 1)),
 oo 5 (.fad 0 (.tmp 2)),
 oo 6 (.load1 (.tmp 5)),
 oo 7 (.call (.tmp 4) [(.tmp 6)]),
 oo 8 (.un .not (.tmp 7)),
 oo 9 (.mv (.tmp 8)),
 og 10 9 false (.fad 1 (.tmp 2)) [],
 og 11 9 false (.load1 (.tmp 10)) [],
 og 12 9 false (.call (.func 32) [(.tmp 11), (kI 0), (kI 100000)]) [],
 og 13 9 false (.un .not (.tmp 12)) [],
 oo 14 (.pick (.tmp 9) (.const (.bool true)) (.tmp 13)),
 oo 15 (.mv (.tmp 14)),
 og 16 15 false (.fad 2 (.tmp 2)) [],
 og 17 15 false (.load1 (.tmp 16)) [],
 og 18 15 false (.call (.func 32) [(.tmp 17), (kI 0), (kI 100000)]) [],
 og 19 15 false (.un .not (.tmp 18)) [],
 oo 20 (.pick (.tmp 15) (.const (.bool true)) (.tmp 19)),
 oo 3 (.mv (.tmp 20))] [4,5,6,7,8,9,10,11,12,13,14,15,16,17,18,19,20])
 .ret))
set_option maxRecDepth 100000 in
theorem kparts_valid_S3 : IsCode Tryd.prog 44 21 cparts_valid_S3 [.tmp 3] :=
 ⟨Tryd.f44, _, [0,1,2,3], Tryd.func44, rfl, by decide, rfl, by kernel_rfl, by kernel_rfl⟩
def cparts_valid_S4 : ACode :=
 (.seq
 (.region false [oo 2 (.box (.tmp 0)),
 oo 3 (.mv (.const (.bool false)))] [])
 (.seq
 (.region false [oo 4 (.load1 (.tmp 1)),
 oo 5 (.fad 0 (.tmp 2)),
 oo 6 (.load1 (.tmp 5)),
 oo 7 (.call (.tmp 4) [(.tmp 6)]),
 oo 8 (.un .not (.tmp 7)),
 oo 9 (.mv (.tmp 8)),
 og 10 9 false (.fad 1 (.tmp 2)) [],
 og 11 9 false (.load1 (.tmp 10)) [],
 og 12 9 false (.call (.func 32) [(.tmp 11), (kI 0), (kI 100000)]) [],
 og 13 9 false (.un .not (.tmp 12)) [],
 oo 14 (.pick (.tmp 9) (.const (.bool true)) (.tmp 13)),
 oo 3 (.mv (.tmp 14))] [4,5,6,7,8,9,10,11,12,13,14])
 .ret))
set_option maxRecDepth 100000 in
theorem kparts_valid_S4 : IsCode Tryd.prog 46 15 cparts_valid_S4 [.tmp 3] :=
 ⟨Tryd.f46, _, [0,1,2,3], Tryd.func46, rfl, by decide, rfl, by kernel_rfl, by kernel_rfl⟩
def cslices_IndexFunc_L_L_Japi_Kind_Kapi_Kind_J : ACode :=
 (.seq
 (.region false [oo 4 (.mv (kI 0))] [])
 (.seq
 (.seq
 (.region false [oo 6 (.mv (.tmp 0)),
 oo 7 (.len_ (.tmp 6)),
 oo 8 (.mv (kI 0))] [6])
 (.block 0
 (.loop
 (.seq
 (.region false [oo 9 (.bin .lss (.tmp 8) (.tmp 7))] [])
 (.seq
 (.cond (.tmp 9)
 .skip
 (.exit 0))
 (.seq
 (.block 1
 (.seq
 (.region false [oo 10 (.mv (.tmp 8)),
 oo 5 (.mv (.tmp 10))] [10])
 (.seq
 (.region false [oo 11 (.mv (.tmp 1)),
 oo 12 (.mv (.tmp 0)),
 oo 13 (.mv (.tmp 5)),
 oo 14 (.iadS 3 (.tmp 12) (.tmp 13)),
 oo 15 (.loadN 3 (.tmp 14)),
 oo 16 (.call (.tmp 11) [(.tmp 15)])] [11,12,13,14,15])
 (.cond (.tmp 16)
 (.seq
 (.region false [oo 17 (.mv (.tmp 5)),
 oo 4 (.mv (.tmp 17))] [17])
 .ret)
 .skip))))
 (.region false [oo 18 (.bin .add (.tmp 8) (kI 1)),
 oo 8 (.mv (.tmp 18))] [18])))))))
 (.seq
 (.region false [oo 4 (.mv (kI (-1)))] [])
 .ret)))
set_option maxRecDepth 100000 in
theorem kslices_IndexFunc_L_L_Japi_Kind_Kapi_Kind_J : IsCode Tryd.prog 64 19 cslices_IndexFunc_L_L_Japi_Kind_Kapi_Kind_J [.tmp 4] :=
 ⟨Tryd.f64, _, [16,9,0,8,7,1,5,4], Tryd.func64, rfl, by decide, rfl, by kernel_rfl, by kernel_rfl⟩
def cslices_ContainsFunc_L_L_Japi_Kind_Kapi_Kind_J : ACode :=
 (.seq
 (.region false [oo 4 (.mv (.const (.bool false)))] [])
 (.seq
 (.region false [oo 5 (.mv (.tmp 0)),
 oo 6 (.mv (.tmp 1)),
 oo 7 (.call (.func 64) [(.tmp 5), (.tmp 6)]),
 oo 8 (.bin .geq (.tmp 7) (kI 0)),
 oo 4 (.mv (.tmp 8))] [5,6,7,8])
 .ret))
set_option maxRecDepth 100000 in
theorem kslices_ContainsFunc_L_L_Japi_Kind_Kapi_Kind_J : IsCode Tryd.prog 41 9 cslices_ContainsFunc_L_L_Japi_Kind_Kapi_Kind_J [.tmp 4] :=
 ⟨Tryd.f41, _, [0,1,4], Tryd.func41, rfl, by decide, rfl, by kernel_rfl, by kernel_rfl⟩
def cslices_IndexFunc_L_L_Japi_Part_Kapi_Part_J : ACode :=
 (.seq
 (.region false [oo 4 (.mv (kI 0))] [])
 (.seq
 (.seq
 (.region false [oo 6 (.mv (.tmp 0)),
 oo 7 (.len_ (.tmp 6)),
 oo 8 (.mv (kI 0))] [6])
 (.block 0
 (.loop
 (.seq
 (.region false [oo 9 (.bin .lss (.tmp 8) (.tmp 7))] [])
 (.seq
 (.cond (.tmp 9)
 .skip
 (.exit 0))
 (.seq
 (.block 1
 (.seq
 (.region false [oo 10 (.mv (.tmp 8)),
 oo 5 (.mv (.tmp 10))] [10])
 (.seq
 (.region false [oo 11 (.mv (.tmp 1)),
 oo 12 (.mv (.tmp 0)),
 oo 13 (.mv (.tmp 5)),
 oo 14 (.iadS 4 (.tmp 12) (.tmp 13)),
 oo 15 (.loadN 4 (.tmp 14)),
 oo 16 (.call (.tmp 11) [(.tmp 15)])] [11,12,13,14,15])
 (.cond (.tmp 16)
 (.seq
 (.region false [oo 17 (.mv (.tmp 5)),
 oo 4 (.mv (.tmp 17))] [17])
 .ret)
 .skip))))
 (.region false [oo 18 (.bin .add (.tmp 8) (kI 1)),
 oo 8 (.mv (.tmp 18))] [18])))))))
 (.seq
 (.region false [oo 4 (.mv (kI (-1)))] [])
 .ret)))
set_option maxRecDepth 100000 in
theorem kslices_IndexFunc_L_L_Japi_Part_Kapi_Part_J : IsCode Tryd.prog 65 19 cslices_IndexFunc_L_L_Japi_Part_Kapi_Part_J [.tmp 4] :=
 ⟨Tryd.f65, _, [16,9,0,8,7,1,5,4], Tryd.func65, rfl, by decide, rfl, by kernel_rfl, by kernel_rfl⟩
def cslices_ContainsFunc_L_L_Japi_Part_Kapi_Part_J : ACode :=
 (.seq
 (.region false [oo 4 (.mv (.const (.bool false)))] [])
 (.seq
 (.region false [oo 5 (.mv (.tmp 0)),
 oo 6 (.mv (.tmp 1)),
 oo 7 (.call (.func 65) [(.tmp 5), (.tmp 6)]),
 oo 8 (.bin .geq (.tmp 7) (kI 0)),
 oo 4 (.mv (.tmp 8))] [5,6,7,8])
 .ret))
set_option maxRecDepth 100000 in
theorem kslices_ContainsFunc_L_L_Japi_Part_Kapi_Part_J : IsCode Tryd.prog 43 9 cslices_ContainsFunc_L_L_Japi_Part_Kapi_Part_J [.tmp 4] :=
 ⟨Tryd.f43, _, [0,1,4], Tryd.func43, rfl, by decide, rfl, by kernel_rfl, by kernel_rfl⟩
def cslices_IndexFunc_L_L_Japi_Order_Kapi_Order_J : ACode :=
 (.seq
 (.region false [oo 4 (.mv (kI 0))] [])
 (.seq
 (.seq
 (.region false [oo 6 (.mv (.tmp 0)),
 oo 7 (.len_ (.tmp 6)),
 oo 8 (.mv (kI 0))] [6])
 (.block 0
 (.loop
 (.seq
 (.region false [oo 9 (.bin .lss (.tmp 8) (.tmp 7))] [])
 (.seq
 (.cond (.tmp 9)
 .skip
 (.exit 0))
 (.seq
 (.block 1
 (.seq
 (.region false [oo 10 (.mv (.tmp 8)),
 oo 5 (.mv (.tmp 10))] [10])
 (.seq
 (.region false [oo 11 (.mv (.tmp 1)),
 oo 12 (.mv (.tmp 0)),
 oo 13 (.mv (.tmp 5)),
 oo 14 (.iadS 2 (.tmp 12) (.tmp 13)),
 oo 15 (.loadN 2 (.tmp 14)),
 oo 16 (.call (.tmp 11) [(.tmp 15)])] [11,12,13,14,15])
 (.cond (.tmp 16)
 (.seq
 (.region false [oo 17 (.mv (.tmp 5)),
 oo 4 (.mv (.tmp 17))] [17])
 .ret)
 .skip))))
 (.region false [oo 18 (.bin .add (.tmp 8) (kI 1)),
 oo 8 (.mv (.tmp 18))] [18])))))))
 (.seq
 (.region false [oo 4 (.mv (kI (-1)))] [])
 .ret)))
set_option maxRecDepth 100000 in
theorem kslices_IndexFunc_L_L_Japi_Order_Kapi_Order_J : IsCode Tryd.prog 66 19 cslices_IndexFunc_L_L_Japi_Order_Kapi_Order_J [.tmp 4] :=
 ⟨Tryd.f66, _, [16,9,0,8,7,1,5,4], Tryd.func66, rfl, by decide, rfl, by kernel_rfl, by kernel_rfl⟩
def cslices_ContainsFunc_L_L_Japi_Order_Kapi_Order_J : ACode :=
 (.seq
 (.region false [oo 4 (.mv (.const (.bool false)))] [])
 (.seq
 (.region false [oo 5 (.mv (.tmp 0)),
 oo 6 (.mv (.tmp 1)),
 oo 7 (.call (.func 66) [(.tmp 5), (.tmp 6)]),
 oo 8 (.bin .geq (.tmp 7) (kI 0)),
 oo 4 (.mv (.tmp 8))] [5,6,7,8])
 .ret))
set_option maxRecDepth 100000 in
theorem kslices_ContainsFunc_L_L_Japi_Order_Kapi_Order_J : IsCode Tryd.prog 45 9 cslices_ContainsFunc_L_L_Japi_Order_Kapi_Order_J [.tmp 4] :=
 ⟨Tryd.f45, _, [0,1,4], Tryd.func45, rfl, by decide, rfl, by kernel_rfl, by kernel_rfl⟩
def cparts_valid : ACode :=
 (.seq
 (.region false [oo 1 (.box (.tmp 0)),
 oo 2 (.mv (.const (.bool false)))] [])
 (.seq
 (.seq
 (.region false [oo 4 (.fad 0 (.tmp 1)),
 oo 5 (.load1 (.tmp 4)),
 oo 6 (.len_ (.tmp 5)),
 oo 7 (.bin .gtr (.tmp 6) (kI 6)),
 oo 8 (.mv (.tmp 7)),
 og 9 8 false (.fad 1 (.tmp 1)) [],
 og 10 8 false (.load1 (.tmp 9)) [],
 og 11 8 false (.len_ (.tmp 10)) [],
 og 12 8 false (.bin .gtr (.tmp 11) (kI 24)) [],
 oo 13 (.pick (.tmp 8) (.const (.bool true)) (.tmp 12)),
 oo 14 (.mv (.tmp 13)),
 og 15 14 false (.fad 3 (.tmp 1)) [],
 og 16 14 false (.load1 (.tmp 15)) [],
 og 17 14 false (.len_ (.tmp 16)) [],
 og 18 14 false (.bin .gtr (.tmp 17) (kI 6)) [],
 oo 19 (.pick (.tmp 14) (.const (.bool true)) (.tmp 18)),
 oo 20 (.mv (.tmp 19)),
 og 21 20 false (.fad 2 (.tmp 1)) [],
 og 22 20 false (.load1 (.tmp 21)) [],
 og 23 20 false (.call (.func 32) [(.tmp 22), (kI 0), (kI 4)]) [],
 og 24 20 false (.un .not (.tmp 23)) [],
 oo 25 (.pick (.tmp 20) (.const (.bool true)) (.tmp 24))] [4,5,6,7,8,9,10,11,12,13,14,15,16,17,18,19,20,21,22,23,24])
 (.cond (.tmp 25)
 (.seq
 (.region false [oo 2 (.mv (.const (.bool false)))] [])
 .ret)
 .skip))
 (.seq
 (.region false [oo 26 (.mkfn 40 [] [(.tmp 1)]),
 oo 3 (.mem [(.val (.nilFunc))]),
 on (.store 1 (.tmp 3) (.tmp 26))] [26])
 (.seq
 (.region false [oo 27 (.fad 0 (.tmp 1)),
 oo 28 (.load1 (.tmp 27)),
 oo 29 (.call (.func 41) [(.tmp 28), (.func 42)]),
 oo 30 (.un .not (.tmp 29)),
 oo 31 (.mv (.tmp 30)),
 og 32 31 true (.fad 1 (.tmp 1)) [],
 og 33 31 true (.load1 (.tmp 32)) [],
 og 34 31 true (.mkfn 44 [] [(.tmp 3)]) [],
 og 35 31 true (.call (.func 43) [(.tmp 33), (.tmp 34)]) [],
 og 36 31 true (.un .not (.tmp 35)) [],
 oo 37 (.pick (.tmp 31) (.tmp 36) (.const (.bool false))),
 oo 38 (.mv (.tmp 37)),
 og 39 38 true (.fad 3 (.tmp 1)) [],
 og 40 38 true (.load1 (.tmp 39)) [],
 og 41 38 true (.mkfn 46 [] [(.tmp 3)]) [],
 og 42 38 true (.call (.func 45) [(.tmp 40), (.tmp 41)]) [],
 og 43 38 true (.un .not (.tmp 42)) [],
 oo 44 (.pick (.tmp 38) (.tmp 43) (.const (.bool false))),
 oo 2 (.mv (.tmp 44))] [27,28,29,30,31,32,33,34,35,36,37,38,39,40,41,42,43,44])
 .ret))))
set_option maxRecDepth 100000 in
theorem kparts_valid : IsCode Tryd.prog 29 45 cparts_valid [.tmp 2] :=
 ⟨Tryd.f29, _, [25,0,1,3,2], Tryd.func29, rfl, by decide, rfl, by kernel_rfl, by kernel_rfl⟩
end Go.Proofs.YtgibbaadjbohdaaDoor
/- parts: what a register must be. No conditions. -/
namespace Go.Proofs.YtgibbaadjbohdaaDoor
open Go Go.RowKit Lift

set_option maxRecDepth 100000 in
set_option maxHeartbeats 1000000 in
theorem pwithin_ac (n a b : Int) : AC Tryd.prog 32 [dI n, dI a, dI b] [] [] (dB (wI n a b)) := by
  refine kparts_within.ac (n0 := 0) (by simp) ⟨.val _, .val _, .val _, trivial⟩ trivial rfl ?_
  unfold cparts_within wI
  cases q1 : decide (a ≤ n) <;> cases q2 : decide (n ≤ b)
  all_goals
    (repeat' (first | apply aw_seq | ((first | apply aw_skip | apply aw_exit); try simp only [thenQ, blockQ, if_true, if_false, Nat.reduceEqDiff, reduceCtorEq]) | apply aw_ret | apply aw_block | apply aw_condT rfl | apply aw_condF rfl | ((first | refine aw_region ?_ | refine ago_if (by omega) ?_ | skip); simp (disch := first | exact okY | omega) only [ZU, dB, Bool.and_false, Nat.reduceMul, dI, Nat.reduceAdd, AOpRun, aexec, Nat.reduceBEq, ↓eget_h, isSh, ↓reduceIte, abin, ge_iff_le, q1, ARun_some, AG_ft, AG_tt, q2])))
    all_goals (refine end_q [] [] ?_ ?_ <;> repeat' (first | exact trivial | exact vr_val _))
theorem any_idx {α : Type} (p : α → Bool) : ∀ l : List α, l.any p = (l.findIdx? p).isSome
  | [] => rfl
  | a :: l => by
    rw [List.any_cons, List.findIdx?_cons, any_idx p l]
    cases p a <;> simp
def ixP {α : Type} (p : α → Bool) (l : List α) : Int := match l.findIdx? p with
  | some k => (k : Int)
  | none => -1
theorem ixP_at {α : Type} {p : α → Bool} {l : List α} {k : Nat} {a : α} (h : l[k]? = some a) (hp : p a = true) (hn : ∀ j, j < k → ∀ b, l[j]? = some b → p b = false) : ixP p l = k := by
  have hk : k < l.length := by
    rcases Nat.lt_or_ge k l.length with h1 | h1
    · exact h1
    · rw [List.getElem?_eq_none h1] at h; cases h
  have q : l.findIdx? p = some k := by
    rw [List.findIdx?_eq_some_iff_getElem]
    refine ⟨hk, ?_, fun j hj => ?_⟩
    · rw [List.getElem?_eq_getElem hk] at h; cases h; simpa using hp
    · have := hn j hj (l[j]) (List.getElem?_eq_getElem (by omega))
      simpa using this
  unfold ixP
  rw [q]
theorem ixP_no {α : Type} {p : α → Bool} {l : List α} (hn : ∀ j, j < l.length → ∀ b, l[j]? = some b → p b = false) : ixP p l = -1 := by
  have q : l.findIdx? p = none := by
    rw [List.findIdx?_eq_none_iff]
    intro y hy
    obtain ⟨j, hj, rfl⟩ := List.getElem_of_mem hy
    have := hn j hj _ (List.getElem?_eq_getElem hj)
    simp [this]
  unfold ixP
  rw [q]
theorem idxI_any {α : Type} (p : α → Bool) (l : List α) : decide (ixP p l ≥ 0) = l.any p := by
  rw [any_idx]
  unfold ixP
  cases l.findIdx? p <;> simp
theorem nthI {α : Type} {l : List α} {k : Nat} (h : k < l.length) : ∃ a, l[k]? = some a := ⟨_, List.getElem?_eq_getElem h⟩
theorem kds_nth (l : List Kd) (k : Nat) (a : Kd) (h : l[k]? = some a) : (kds l)[k]? = some (kdC a) := by simp [kds, h]
theorem kds_all (l : List Kd) : (kds l).all (fun x => x.length == 3) = true := by simp [kds, kdC]
set_option maxRecDepth 100000 in
set_option maxHeartbeats 1000000 in
theorem ifKind_ac (F : FuncId) (p : Kd → Bool) (hF : ∀ x : Kd, AC Tryd.prog F ([.agg (kdC x)] ++ []) [] [] (dB (p x))) (l : List Kd) (hl : l.length ≤ 1000000) :
    AC Tryd.prog 64 [.list (kds l), .fn F [] []] [] [] (dI (ixP p l)) := by
  refine kslices_IndexFunc_L_L_Japi_Kind_Kapi_Kind_J.ac (n0 := 0) (by simp) ⟨.list _, .fn _ _ _ (by simp) (fun d hd => inF_in (List.all_eq_true.1 (show ([] : List D).all inF = true from rfl) d hd)), trivial⟩ trivial rfl ?_
  unfold cslices_IndexFunc_L_L_Japi_Kind_Kapi_Kind_J
  (repeat' (first | apply aw_seq | ((first | apply aw_skip | apply aw_exit); try simp only [thenQ, blockQ, if_true, if_false, Nat.reduceEqDiff, reduceCtorEq]) | apply aw_ret | apply aw_block | apply aw_condT rfl | apply aw_condF rfl | ((first | refine aw_region ?_ | refine ago_if (by omega) ?_ | skip); simp (disch := first | exact okY | omega) only [ZU, Int.reduceNeg, dI, Nat.reduceMul, AOpRun, aexec, Nat.reduceBEq, Nat.reduceAdd, ↓eget_h, kds_len])))
  refine aw_loop (fun k : Nat => ⟨[(0, .list (kds l)), (1, .fn F [] []), (7, dI l.length), (8, dI k)], [], 400⟩) (fun k => k ≤ l.length ∧ ∀ j, j < k → ∀ b, l[j]? = some b → p b = false) (fun k => l.length - k) ⟨0, ⟨by omega, fun j hj => by omega⟩, ?_⟩ ?_
  · refine wk_q [] [] ?_ ?_ <;> repeat' (first | exact trivial | exact vr_val _ | exact vr_list _ | apply vr_fn | apply And.intro)
  rintro k ⟨hk, hin⟩
  by_cases hk2 : k < l.length
  case neg =>
    obtain rfl : k = l.length := by omega
    rw [ixP_no hin]
    (have hg : (987654321 : Nat) - 987654321 = 0 := rfl; have hr := hg; repeat' (first | apply aw_seq | ((first | apply aw_skip | apply aw_exit); try simp only [thenQ, blockQ, if_true, if_false, Nat.reduceEqDiff, reduceCtorEq]) | apply aw_ret | apply aw_block | apply aw_condT rfl | apply aw_condF rfl | (refine aw_cond rfl (fun hg => ?_) (fun hg => ?_) <;> (try (have hq := hg; simp only [Bool.not_eq_true', Bool.not_eq_false', Bool.and_eq_true, Bool.and_eq_false_iff, Bool.or_eq_true, Bool.or_eq_false_iff, decide_eq_true_eq, decide_eq_false_iff_not, bne_iff_ne, beq_iff_eq, beq_eq_false_iff_ne, bne_eq_false_iff_eq, ne_eq, Int.not_lt, Int.not_le, Decidable.not_not] at hq)) <;> (try (have hr := hg; simp only [decide_eq_true_eq, decide_eq_false_iff_not] at hr)) <;> (try (exfalso; omega))) | ((first | refine aw_region ?_ | refine ago_if (by omega) ?_ | skip); simp (disch := first | exact okY | omega) only [ZU, dI, Int.reduceNeg, Nat.reduceMul, Nat.reduceAdd, AOpRun, aexec, Nat.reduceBEq, ↓eget_h, isSh, ↓reduceIte, abin, hr, decide_false])))
    all_goals (refine end_q [] [] ?_ ?_ <;> repeat' (first | exact trivial | exact vr_val _))
  obtain ⟨a, ha⟩ := nthI hk2
  have g1 := kds_nth l k a ha
  have ga := kds_all l
  have hc := hF a
  unfold kdC at g1 hc
  cases he : p a with
  | true =>
    rw [ixP_at ha he hin]
    rw [he] at hc
    (have hg : (987654321 : Nat) - 987654321 = 0 := rfl; have hr := hg; repeat' (first | apply aw_seq | ((first | apply aw_skip | apply aw_exit); try simp only [thenQ, blockQ, if_true, if_false, Nat.reduceEqDiff, reduceCtorEq]) | apply aw_ret | apply aw_block | apply aw_condT rfl | apply aw_condF rfl | (refine aw_cond rfl (fun hg => ?_) (fun hg => ?_) <;> (try (have hq := hg; simp only [Bool.not_eq_true', Bool.not_eq_false', Bool.and_eq_true, Bool.and_eq_false_iff, Bool.or_eq_true, Bool.or_eq_false_iff, decide_eq_true_eq, decide_eq_false_iff_not, bne_iff_ne, beq_iff_eq, beq_eq_false_iff_ne, bne_eq_false_iff_eq, ne_eq, Int.not_lt, Int.not_le, Decidable.not_not] at hq)) <;> (try (have hr := hg; simp only [decide_eq_true_eq, decide_eq_false_iff_not] at hr)) <;> (try (exfalso; omega))) | ((first | refine aw_region ?_ | refine acall0 (hc) ?_ | refine ago_if (by omega) ?_ | skip); simp (disch := first | exact okY | omega) only [ZU, dI, Int.reduceNeg, Nat.reduceMul, Nat.reduceAdd, AOpRun, aexec, Nat.reduceBEq, ↓eget_h, isSh, ↓reduceIte, abin, hr, ga, opt1, g1, Nat.reduceLeDiff, List.take, dB, blockQ])))
    all_goals (refine end_q [] [] ?_ ?_ <;> repeat' (first | exact trivial | exact vr_val _))
  | false =>
    rw [he] at hc
    (have hg : (987654321 : Nat) - 987654321 = 0 := rfl; have hr := hg; repeat' (first | apply aw_seq | ((first | apply aw_skip | apply aw_exit); try simp only [thenQ, blockQ, if_true, if_false, Nat.reduceEqDiff, reduceCtorEq]) | apply aw_ret | apply aw_block | apply aw_condT rfl | apply aw_condF rfl | (refine aw_cond rfl (fun hg => ?_) (fun hg => ?_) <;> (try (have hq := hg; simp only [Bool.not_eq_true', Bool.not_eq_false', Bool.and_eq_true, Bool.and_eq_false_iff, Bool.or_eq_true, Bool.or_eq_false_iff, decide_eq_true_eq, decide_eq_false_iff_not, bne_iff_ne, beq_iff_eq, beq_eq_false_iff_ne, bne_eq_false_iff_eq, ne_eq, Int.not_lt, Int.not_le, Decidable.not_not] at hq)) <;> (try (have hr := hg; simp only [decide_eq_true_eq, decide_eq_false_iff_not] at hr)) <;> (try (exfalso; omega))) | ((first | refine aw_region ?_ | refine acall0 (hc) ?_ | refine ago_if (by omega) ?_ | skip); simp (disch := first | exact okY | omega) only [ZU, dI, Int.reduceNeg, Nat.reduceMul, Nat.reduceAdd, AOpRun, aexec, Nat.reduceBEq, ↓eget_h, isSh, ↓reduceIte, abin, hr, ga, opt1, g1, Nat.reduceLeDiff, List.take, dB, fits])))
    refine ⟨k + 1, ⟨by omega, fun j hj b hb => ?_⟩, by omega, by refine wk_q [] [] ?_ ?_ <;> repeat' (first | exact trivial | exact vr_val _ | exact vr_list _ | apply vr_fn | apply And.intro)⟩
    rcases (by omega : j < k ∨ j = k) with h | rfl
    · exact hin j h b hb
    · rw [ha] at hb; cases hb; exact he
set_option maxRecDepth 100000 in
set_option maxHeartbeats 1000000 in
theorem cfKind_ac (F : FuncId) (p : Kd → Bool) (hF : ∀ x : Kd, AC Tryd.prog F ([.agg (kdC x)] ++ []) [] [] (dB (p x))) (l : List Kd) (hl : l.length ≤ 1000000) :
    AC Tryd.prog 41 [.list (kds l), .fn F [] []] [] [] (dB (l.any p)) := by
  refine kslices_ContainsFunc_L_L_Japi_Kind_Kapi_Kind_J.ac (n0 := 0) (by simp) ⟨.list _, .fn _ _ _ (by simp) (fun d hd => inF_in (List.all_eq_true.1 (show ([] : List D).all inF = true from rfl) d hd)), trivial⟩ trivial rfl ?_
  unfold cslices_ContainsFunc_L_L_Japi_Kind_Kapi_Kind_J
  have c1 := ifKind_ac F p hF l hl
  have q := idxI_any p l
  generalize l.any p = b at *
  (repeat' (first | apply aw_seq | ((first | apply aw_skip | apply aw_exit); try simp only [thenQ, blockQ, if_true, if_false, Nat.reduceEqDiff, reduceCtorEq]) | apply aw_ret | apply aw_block | apply aw_condT rfl | apply aw_condF rfl | ((first | refine aw_region ?_ | refine acall0 (c1) ?_ | refine ago_if (by omega) ?_ | skip); simp (disch := first | exact okY | omega) only [ZU, dB, Nat.reduceMul, AOpRun, aexec, Nat.reduceBEq, Nat.reduceAdd, ↓eget_h, dI, isSh, ↓reduceIte, abin, q])))
  all_goals (refine end_q [] [] ?_ ?_ <;> repeat' (first | exact trivial | exact vr_val _))
theorem p0s_nth (l : List P0) (k : Nat) (a : P0) (h : l[k]? = some a) : (p0s l)[k]? = some (p0C a) := by simp [p0s, h]
theorem p0s_all (l : List P0) : (p0s l).all (fun x => x.length == 4) = true := by simp [p0s, p0C]
set_option maxRecDepth 100000 in
set_option maxHeartbeats 1000000 in
theorem ifPart_ac (F : FuncId) (c0 : List D) (p : P0 → Bool) (hF : ∀ x : P0, AC Tryd.prog F ([.agg (p0C x)] ++ [.at_ c0]) [] [] (dB (p x))) (l : List P0) (hl : l.length ≤ 1000000) :
    AC Tryd.prog 65 [.list (p0s l), .fn F [] [.at_ c0]] [] [] (dI (ixP p l)) := by
  refine kslices_IndexFunc_L_L_Japi_Part_Kapi_Part_J.ac (n0 := 0) (by simp) ⟨.list _, .fn _ _ _ (by simp) (fun d hd => inF_in (List.all_eq_true.1 (show ([.at_ c0] : List D).all inF = true from rfl) d hd)), trivial⟩ trivial rfl ?_
  unfold cslices_IndexFunc_L_L_Japi_Part_Kapi_Part_J
  (repeat' (first | apply aw_seq | ((first | apply aw_skip | apply aw_exit); try simp only [thenQ, blockQ, if_true, if_false, Nat.reduceEqDiff, reduceCtorEq]) | apply aw_ret | apply aw_block | apply aw_condT rfl | apply aw_condF rfl | ((first | refine aw_region ?_ | refine ago_if (by omega) ?_ | skip); simp (disch := first | exact okY | omega) only [ZU, Int.reduceNeg, dI, Nat.reduceMul, AOpRun, aexec, Nat.reduceBEq, Nat.reduceAdd, ↓eget_h, p0s_len])))
  refine aw_loop (fun k : Nat => ⟨[(0, .list (p0s l)), (1, .fn F [] [.at_ c0]), (7, dI l.length), (8, dI k)], [], 400⟩) (fun k => k ≤ l.length ∧ ∀ j, j < k → ∀ b, l[j]? = some b → p b = false) (fun k => l.length - k) ⟨0, ⟨by omega, fun j hj => by omega⟩, ?_⟩ ?_
  · refine wk_q [] [] ?_ ?_ <;> repeat' (first | exact trivial | exact vr_val _ | exact vr_list _ | exact vr_at _ | apply vr_fn | apply And.intro)
  rintro k ⟨hk, hin⟩
  by_cases hk2 : k < l.length
  case neg =>
    obtain rfl : k = l.length := by omega
    rw [ixP_no hin]
    (have hg : (987654321 : Nat) - 987654321 = 0 := rfl; have hr := hg; repeat' (first | apply aw_seq | ((first | apply aw_skip | apply aw_exit); try simp only [thenQ, blockQ, if_true, if_false, Nat.reduceEqDiff, reduceCtorEq]) | apply aw_ret | apply aw_block | apply aw_condT rfl | apply aw_condF rfl | (refine aw_cond rfl (fun hg => ?_) (fun hg => ?_) <;> (try (have hq := hg; simp only [Bool.not_eq_true', Bool.not_eq_false', Bool.and_eq_true, Bool.and_eq_false_iff, Bool.or_eq_true, Bool.or_eq_false_iff, decide_eq_true_eq, decide_eq_false_iff_not, bne_iff_ne, beq_iff_eq, beq_eq_false_iff_ne, bne_eq_false_iff_eq, ne_eq, Int.not_lt, Int.not_le, Decidable.not_not] at hq)) <;> (try (have hr := hg; simp only [decide_eq_true_eq, decide_eq_false_iff_not] at hr)) <;> (try (exfalso; omega))) | ((first | refine aw_region ?_ | refine ago_if (by omega) ?_ | skip); simp (disch := first | exact okY | omega) only [ZU, dI, Int.reduceNeg, Nat.reduceMul, Nat.reduceAdd, AOpRun, aexec, Nat.reduceBEq, ↓eget_h, isSh, ↓reduceIte, abin, hr, decide_false])))
    all_goals (refine end_q [] [] ?_ ?_ <;> repeat' (first | exact trivial | exact vr_val _))
  obtain ⟨a, ha⟩ := nthI hk2
  have g1 := p0s_nth l k a ha
  have ga := p0s_all l
  have hc := hF a
  unfold p0C at g1 hc
  cases he : p a with
  | true =>
    rw [ixP_at ha he hin]
    rw [he] at hc
    (have hg : (987654321 : Nat) - 987654321 = 0 := rfl; have hr := hg; repeat' (first | apply aw_seq | ((first | apply aw_skip | apply aw_exit); try simp only [thenQ, blockQ, if_true, if_false, Nat.reduceEqDiff, reduceCtorEq]) | apply aw_ret | apply aw_block | apply aw_condT rfl | apply aw_condF rfl | (refine aw_cond rfl (fun hg => ?_) (fun hg => ?_) <;> (try (have hq := hg; simp only [Bool.not_eq_true', Bool.not_eq_false', Bool.and_eq_true, Bool.and_eq_false_iff, Bool.or_eq_true, Bool.or_eq_false_iff, decide_eq_true_eq, decide_eq_false_iff_not, bne_iff_ne, beq_iff_eq, beq_eq_false_iff_ne, bne_eq_false_iff_eq, ne_eq, Int.not_lt, Int.not_le, Decidable.not_not] at hq)) <;> (try (have hr := hg; simp only [decide_eq_true_eq, decide_eq_false_iff_not] at hr)) <;> (try (exfalso; omega))) | ((first | refine aw_region ?_ | refine acall0 (hc) ?_ | refine ago_if (by omega) ?_ | skip); simp (disch := first | exact okY | omega) only [ZU, dI, Int.reduceNeg, Nat.reduceMul, Nat.reduceAdd, AOpRun, aexec, Nat.reduceBEq, ↓eget_h, isSh, ↓reduceIte, abin, hr, ga, opt1, g1, dB, Nat.reduceLeDiff, List.take, blockQ])))
    all_goals (refine end_q [] [] ?_ ?_ <;> repeat' (first | exact trivial | exact vr_val _))
  | false =>
    rw [he] at hc
    (have hg : (987654321 : Nat) - 987654321 = 0 := rfl; have hr := hg; repeat' (first | apply aw_seq | ((first | apply aw_skip | apply aw_exit); try simp only [thenQ, blockQ, if_true, if_false, Nat.reduceEqDiff, reduceCtorEq]) | apply aw_ret | apply aw_block | apply aw_condT rfl | apply aw_condF rfl | (refine aw_cond rfl (fun hg => ?_) (fun hg => ?_) <;> (try (have hq := hg; simp only [Bool.not_eq_true', Bool.not_eq_false', Bool.and_eq_true, Bool.and_eq_false_iff, Bool.or_eq_true, Bool.or_eq_false_iff, decide_eq_true_eq, decide_eq_false_iff_not, bne_iff_ne, beq_iff_eq, beq_eq_false_iff_ne, bne_eq_false_iff_eq, ne_eq, Int.not_lt, Int.not_le, Decidable.not_not] at hq)) <;> (try (have hr := hg; simp only [decide_eq_true_eq, decide_eq_false_iff_not] at hr)) <;> (try (exfalso; omega))) | ((first | refine aw_region ?_ | refine acall0 (hc) ?_ | refine ago_if (by omega) ?_ | skip); simp (disch := first | exact okY | omega) only [ZU, dI, Int.reduceNeg, Nat.reduceMul, Nat.reduceAdd, AOpRun, aexec, Nat.reduceBEq, ↓eget_h, isSh, ↓reduceIte, abin, hr, ga, opt1, g1, dB, Nat.reduceLeDiff, List.take, fits])))
    refine ⟨k + 1, ⟨by omega, fun j hj b hb => ?_⟩, by omega, by refine wk_q [] [] ?_ ?_ <;> repeat' (first | exact trivial | exact vr_val _ | exact vr_list _ | exact vr_at _ | apply vr_fn | apply And.intro)⟩
    rcases (by omega : j < k ∨ j = k) with h | rfl
    · exact hin j h b hb
    · rw [ha] at hb; cases hb; exact he
set_option maxRecDepth 100000 in
set_option maxHeartbeats 1000000 in
theorem cfPart_ac (F : FuncId) (c0 : List D) (p : P0 → Bool) (hF : ∀ x : P0, AC Tryd.prog F ([.agg (p0C x)] ++ [.at_ c0]) [] [] (dB (p x))) (l : List P0) (hl : l.length ≤ 1000000) :
    AC Tryd.prog 43 [.list (p0s l), .fn F [] [.at_ c0]] [] [] (dB (l.any p)) := by
  refine kslices_ContainsFunc_L_L_Japi_Part_Kapi_Part_J.ac (n0 := 0) (by simp) ⟨.list _, .fn _ _ _ (by simp) (fun d hd => inF_in (List.all_eq_true.1 (show ([.at_ c0] : List D).all inF = true from rfl) d hd)), trivial⟩ trivial rfl ?_
  unfold cslices_ContainsFunc_L_L_Japi_Part_Kapi_Part_J
  have c1 := ifPart_ac F c0 p hF l hl
  have q := idxI_any p l
  generalize l.any p = b at *
  (repeat' (first | apply aw_seq | ((first | apply aw_skip | apply aw_exit); try simp only [thenQ, blockQ, if_true, if_false, Nat.reduceEqDiff, reduceCtorEq]) | apply aw_ret | apply aw_block | apply aw_condT rfl | apply aw_condF rfl | ((first | refine aw_region ?_ | refine acall0 (c1) ?_ | refine ago_if (by omega) ?_ | skip); simp (disch := first | exact okY | omega) only [ZU, dB, Nat.reduceMul, AOpRun, aexec, Nat.reduceBEq, Nat.reduceAdd, ↓eget_h, dI, isSh, ↓reduceIte, abin, q])))
  all_goals (refine end_q [] [] ?_ ?_ <;> repeat' (first | exact trivial | exact vr_val _))
theorem ods_nth (l : List (Int × Int)) (k : Nat) (a : (Int × Int)) (h : l[k]? = some a) : (ods l)[k]? = some (odC a) := by simp [ods, h]
theorem ods_all (l : List (Int × Int)) : (ods l).all (fun x => x.length == 2) = true := by simp [ods, odC]
set_option maxRecDepth 100000 in
set_option maxHeartbeats 1000000 in
theorem ifOrder_ac (F : FuncId) (c0 : List D) (p : (Int × Int) → Bool) (hF : ∀ x : (Int × Int), AC Tryd.prog F ([.agg (odC x)] ++ [.at_ c0]) [] [] (dB (p x))) (l : List (Int × Int)) (hl : l.length ≤ 1000000) :
    AC Tryd.prog 66 [.list (ods l), .fn F [] [.at_ c0]] [] [] (dI (ixP p l)) := by
  refine kslices_IndexFunc_L_L_Japi_Order_Kapi_Order_J.ac (n0 := 0) (by simp) ⟨.list _, .fn _ _ _ (by simp) (fun d hd => inF_in (List.all_eq_true.1 (show ([.at_ c0] : List D).all inF = true from rfl) d hd)), trivial⟩ trivial rfl ?_
  unfold cslices_IndexFunc_L_L_Japi_Order_Kapi_Order_J
  (repeat' (first | apply aw_seq | ((first | apply aw_skip | apply aw_exit); try simp only [thenQ, blockQ, if_true, if_false, Nat.reduceEqDiff, reduceCtorEq]) | apply aw_ret | apply aw_block | apply aw_condT rfl | apply aw_condF rfl | ((first | refine aw_region ?_ | refine ago_if (by omega) ?_ | skip); simp (disch := first | exact okY | omega) only [ZU, Int.reduceNeg, dI, Nat.reduceMul, AOpRun, aexec, Nat.reduceBEq, Nat.reduceAdd, ↓eget_h, ods_len])))
  refine aw_loop (fun k : Nat => ⟨[(0, .list (ods l)), (1, .fn F [] [.at_ c0]), (7, dI l.length), (8, dI k)], [], 400⟩) (fun k => k ≤ l.length ∧ ∀ j, j < k → ∀ b, l[j]? = some b → p b = false) (fun k => l.length - k) ⟨0, ⟨by omega, fun j hj => by omega⟩, ?_⟩ ?_
  · refine wk_q [] [] ?_ ?_ <;> repeat' (first | exact trivial | exact vr_val _ | exact vr_list _ | exact vr_at _ | apply vr_fn | apply And.intro)
  rintro k ⟨hk, hin⟩
  by_cases hk2 : k < l.length
  case neg =>
    obtain rfl : k = l.length := by omega
    rw [ixP_no hin]
    (have hg : (987654321 : Nat) - 987654321 = 0 := rfl; have hr := hg; repeat' (first | apply aw_seq | ((first | apply aw_skip | apply aw_exit); try simp only [thenQ, blockQ, if_true, if_false, Nat.reduceEqDiff, reduceCtorEq]) | apply aw_ret | apply aw_block | apply aw_condT rfl | apply aw_condF rfl | (refine aw_cond rfl (fun hg => ?_) (fun hg => ?_) <;> (try (have hq := hg; simp only [Bool.not_eq_true', Bool.not_eq_false', Bool.and_eq_true, Bool.and_eq_false_iff, Bool.or_eq_true, Bool.or_eq_false_iff, decide_eq_true_eq, decide_eq_false_iff_not, bne_iff_ne, beq_iff_eq, beq_eq_false_iff_ne, bne_eq_false_iff_eq, ne_eq, Int.not_lt, Int.not_le, Decidable.not_not] at hq)) <;> (try (have hr := hg; simp only [decide_eq_true_eq, decide_eq_false_iff_not] at hr)) <;> (try (exfalso; omega))) | ((first | refine aw_region ?_ | refine ago_if (by omega) ?_ | skip); simp (disch := first | exact okY | omega) only [ZU, dI, Int.reduceNeg, Nat.reduceMul, Nat.reduceAdd, AOpRun, aexec, Nat.reduceBEq, ↓eget_h, isSh, ↓reduceIte, abin, hr, decide_false])))
    all_goals (refine end_q [] [] ?_ ?_ <;> repeat' (first | exact trivial | exact vr_val _))
  obtain ⟨a, ha⟩ := nthI hk2
  have g1 := ods_nth l k a ha
  have ga := ods_all l
  have hc := hF a
  unfold odC at g1 hc
  cases he : p a with
  | true =>
    rw [ixP_at ha he hin]
    rw [he] at hc
    (have hg : (987654321 : Nat) - 987654321 = 0 := rfl; have hr := hg; repeat' (first | apply aw_seq | ((first | apply aw_skip | apply aw_exit); try simp only [thenQ, blockQ, if_true, if_false, Nat.reduceEqDiff, reduceCtorEq]) | apply aw_ret | apply aw_block | apply aw_condT rfl | apply aw_condF rfl | (refine aw_cond rfl (fun hg => ?_) (fun hg => ?_) <;> (try (have hq := hg; simp only [Bool.not_eq_true', Bool.not_eq_false', Bool.and_eq_true, Bool.and_eq_false_iff, Bool.or_eq_true, Bool.or_eq_false_iff, decide_eq_true_eq, decide_eq_false_iff_not, bne_iff_ne, beq_iff_eq, beq_eq_false_iff_ne, bne_eq_false_iff_eq, ne_eq, Int.not_lt, Int.not_le, Decidable.not_not] at hq)) <;> (try (have hr := hg; simp only [decide_eq_true_eq, decide_eq_false_iff_not] at hr)) <;> (try (exfalso; omega))) | ((first | refine aw_region ?_ | refine acall0 (hc) ?_ | refine ago_if (by omega) ?_ | skip); simp (disch := first | exact okY | omega) only [ZU, dI, Int.reduceNeg, Nat.reduceMul, Nat.reduceAdd, AOpRun, aexec, Nat.reduceBEq, ↓eget_h, isSh, ↓reduceIte, abin, hr, ga, opt1, g1, Nat.reduceLeDiff, List.take, dB, blockQ])))
    all_goals (refine end_q [] [] ?_ ?_ <;> repeat' (first | exact trivial | exact vr_val _))
  | false =>
    rw [he] at hc
    (have hg : (987654321 : Nat) - 987654321 = 0 := rfl; have hr := hg; repeat' (first | apply aw_seq | ((first | apply aw_skip | apply aw_exit); try simp only [thenQ, blockQ, if_true, if_false, Nat.reduceEqDiff, reduceCtorEq]) | apply aw_ret | apply aw_block | apply aw_condT rfl | apply aw_condF rfl | (refine aw_cond rfl (fun hg => ?_) (fun hg => ?_) <;> (try (have hq := hg; simp only [Bool.not_eq_true', Bool.not_eq_false', Bool.and_eq_true, Bool.and_eq_false_iff, Bool.or_eq_true, Bool.or_eq_false_iff, decide_eq_true_eq, decide_eq_false_iff_not, bne_iff_ne, beq_iff_eq, beq_eq_false_iff_ne, bne_eq_false_iff_eq, ne_eq, Int.not_lt, Int.not_le, Decidable.not_not] at hq)) <;> (try (have hr := hg; simp only [decide_eq_true_eq, decide_eq_false_iff_not] at hr)) <;> (try (exfalso; omega))) | ((first | refine aw_region ?_ | refine acall0 (hc) ?_ | refine ago_if (by omega) ?_ | skip); simp (disch := first | exact okY | omega) only [ZU, dI, Int.reduceNeg, Nat.reduceMul, Nat.reduceAdd, AOpRun, aexec, Nat.reduceBEq, ↓eget_h, isSh, ↓reduceIte, abin, hr, ga, opt1, g1, Nat.reduceLeDiff, List.take, dB, fits])))
    refine ⟨k + 1, ⟨by omega, fun j hj b hb => ?_⟩, by omega, by refine wk_q [] [] ?_ ?_ <;> repeat' (first | exact trivial | exact vr_val _ | exact vr_list _ | exact vr_at _ | apply vr_fn | apply And.intro)⟩
    rcases (by omega : j < k ∨ j = k) with h | rfl
    · exact hin j h b hb
    · rw [ha] at hb; cases hb; exact he
set_option maxRecDepth 100000 in
set_option maxHeartbeats 1000000 in
theorem cfOrder_ac (F : FuncId) (c0 : List D) (p : (Int × Int) → Bool) (hF : ∀ x : (Int × Int), AC Tryd.prog F ([.agg (odC x)] ++ [.at_ c0]) [] [] (dB (p x))) (l : List (Int × Int)) (hl : l.length ≤ 1000000) :
    AC Tryd.prog 45 [.list (ods l), .fn F [] [.at_ c0]] [] [] (dB (l.any p)) := by
  refine kslices_ContainsFunc_L_L_Japi_Order_Kapi_Order_J.ac (n0 := 0) (by simp) ⟨.list _, .fn _ _ _ (by simp) (fun d hd => inF_in (List.all_eq_true.1 (show ([.at_ c0] : List D).all inF = true from rfl) d hd)), trivial⟩ trivial rfl ?_
  unfold cslices_ContainsFunc_L_L_Japi_Order_Kapi_Order_J
  have c1 := ifOrder_ac F c0 p hF l hl
  have q := idxI_any p l
  generalize l.any p = b at *
  (repeat' (first | apply aw_seq | ((first | apply aw_skip | apply aw_exit); try simp only [thenQ, blockQ, if_true, if_false, Nat.reduceEqDiff, reduceCtorEq]) | apply aw_ret | apply aw_block | apply aw_condT rfl | apply aw_condF rfl | ((first | refine aw_region ?_ | refine acall0 (c1) ?_ | refine ago_if (by omega) ?_ | skip); simp (disch := first | exact okY | omega) only [ZU, dB, Nat.reduceMul, AOpRun, aexec, Nat.reduceBEq, Nat.reduceAdd, ↓eget_h, dI, isSh, ↓reduceIte, abin, q])))
  all_goals (refine end_q [] [] ?_ ?_ <;> repeat' (first | exact trivial | exact vr_val _))

set_option maxRecDepth 100000 in
set_option maxHeartbeats 1000000 in
theorem pv1_ac (r : Reg) (n : Int) : AC Tryd.prog 40 [dI n, .at_ (regC r)] [] [] (dB (kinB r n)) := by
  refine kparts_valid_S1.ac (n0 := 0) (by simp) ⟨.val _, .at_ _, trivial⟩ trivial rfl ?_
  unfold cparts_valid_S1 kinB regC
  have c1 := pwithin_ac n 0 (w64 (r.ks.length - 1))
  unfold w64 at *
  (repeat' (first | apply aw_seq | ((first | apply aw_skip | apply aw_exit); try simp only [thenQ, blockQ, if_true, if_false, Nat.reduceEqDiff, reduceCtorEq]) | apply aw_ret | apply aw_block | apply aw_condT rfl | apply aw_condF rfl | ((first | refine aw_region ?_ | refine acall0 (c1) ?_ | refine ago_if (by omega) ?_ | skip); simp (disch := first | exact okY | omega) only [ZU, dB, Nat.reduceMul, dI, AOpRun, aexec, Nat.reduceBEq, Nat.reduceAdd, ↓eget_h, List.drop, run1, kds_len, isSh, ↓reduceIte, abin])))
  all_goals (refine end_q [] [] ?_ ?_ <;> repeat' (first | exact trivial | exact vr_val _))
set_option maxRecDepth 100000 in
set_option maxHeartbeats 1000000 in
theorem pv2_ac (k : Kd) : AC Tryd.prog 42 [.agg (kdC k)] [] [] (dB (!kdB k)) := by
  refine kparts_valid_S2.ac (n0 := 0) (by simp) ⟨.agg _ (by intro d hd; simp [kdC] at hd; rcases hd with rfl | rfl | rfl <;> exact .val _), trivial⟩ trivial rfl ?_
  unfold cparts_valid_S2 kdB kdC
  have c1 := pwithin_ac k.h 1 100000
  have c2 := pwithin_ac k.c 1 100000
  have c3 := pwithin_ac k.p 0 4
  generalize wI k.h 1 100000 = b1 at *
  generalize wI k.c 1 100000 = b2 at *
  generalize wI k.p 0 4 = b3 at *
  cases b1 <;> cases b2 <;> cases b3
  all_goals
    (repeat' (first | apply aw_seq | ((first | apply aw_skip | apply aw_exit); try simp only [thenQ, blockQ, if_true, if_false, Nat.reduceEqDiff, reduceCtorEq]) | apply aw_ret | apply aw_block | apply aw_condT rfl | apply aw_condF rfl | ((first | refine aw_region ?_ | refine acall0 (c1) ?_ | refine acall0 (c2) ?_ | refine acall0 (c3) ?_ | refine ago_if (by omega) ?_ | skip); simp (disch := first | exact okY | omega) only [ZU, dB, Bool.and_false, Nat.reduceAdd, Nat.reduceMul, dI, AOpRun, aexec, D.isBot, ↓eget_h, or_self, ↓reduceIte, D.cells, Nat.reduceBEq, run1, ARun_some, AG_tf, AG_ff])))
    all_goals (refine end_q [] [] ?_ ?_ <;> repeat' (first | exact trivial | exact vr_val _))
set_option maxRecDepth 100000 in
set_option maxHeartbeats 1000000 in
theorem pv3_ac (r : Reg) (p : P0) : AC Tryd.prog 44 ([.agg (p0C p)] ++ [.at_ [.fn 40 [] [.at_ (regC r)]]]) [] [] (dB (!p0B r p)) := by
  refine kparts_valid_S3.ac (n0 := 0) (by simp) ⟨.agg _ (by intro d hd; simp [p0C] at hd; rcases hd with rfl | rfl | rfl | rfl <;> exact .val _), .at_ _, trivial⟩ trivial rfl ?_
  unfold cparts_valid_S3 p0B p0C
  have c0 := pv1_ac r p.kd
  have c1 := pwithin_ac p.h 0 100000
  have c2 := pwithin_ac p.c 0 100000
  generalize kinB r p.kd = b1 at *
  generalize wI p.h 0 100000 = b2 at *
  generalize wI p.c 0 100000 = b3 at *
  cases b1 <;> cases b2 <;> cases b3
  all_goals
    (repeat' (first | apply aw_seq | ((first | apply aw_skip | apply aw_exit); try simp only [thenQ, blockQ, if_true, if_false, Nat.reduceEqDiff, reduceCtorEq]) | apply aw_ret | apply aw_block | apply aw_condT rfl | apply aw_condF rfl | ((first | refine aw_region ?_ | refine acall0 (c0) ?_ | refine acall0 (c1) ?_ | refine acall0 (c2) ?_ | refine ago_if (by omega) ?_ | skip); simp (disch := first | exact okY | omega) only [ZU, dB, Bool.and_false, Nat.reduceAdd, Nat.reduceMul, dI, AOpRun, aexec, D.isBot, ↓eget_h, or_self, ↓reduceIte, D.cells, Nat.reduceBEq, run1, ARun_some, AG_tf, AG_ff])))
    all_goals (refine end_q [] [] ?_ ?_ <;> repeat' (first | exact trivial | exact vr_val _))
set_option maxRecDepth 100000 in
set_option maxHeartbeats 1000000 in
theorem pv4_ac (r : Reg) (o : Int × Int) : AC Tryd.prog 46 ([.agg (odC o)] ++ [.at_ [.fn 40 [] [.at_ (regC r)]]]) [] [] (dB (!odB r o)) := by
  refine kparts_valid_S4.ac (n0 := 0) (by simp) ⟨.agg _ (by intro d hd; simp [odC] at hd; rcases hd with rfl | rfl <;> exact .val _), .at_ _, trivial⟩ trivial rfl ?_
  unfold cparts_valid_S4 odB odC
  have c0 := pv1_ac r o.1
  have c1 := pwithin_ac o.2 0 100000
  generalize kinB r o.1 = b1 at *
  generalize wI o.2 0 100000 = b2 at *
  cases b1 <;> cases b2
  all_goals
    (repeat' (first | apply aw_seq | ((first | apply aw_skip | apply aw_exit); try simp only [thenQ, blockQ, if_true, if_false, Nat.reduceEqDiff, reduceCtorEq]) | apply aw_ret | apply aw_block | apply aw_condT rfl | apply aw_condF rfl | ((first | refine aw_region ?_ | refine acall0 (c0) ?_ | refine acall0 (c1) ?_ | refine ago_if (by omega) ?_ | skip); simp (disch := first | exact okY | omega) only [ZU, dB, Bool.and_false, Nat.reduceAdd, Nat.reduceMul, dI, AOpRun, aexec, D.isBot, ↓eget_h, or_self, ↓reduceIte, D.cells, Nat.reduceBEq, run1, ARun_some, AG_tf, AG_ff])))
    all_goals (refine end_q [] [] ?_ ?_ <;> repeat' (first | exact trivial | exact vr_val _))
end Go.Proofs.YtgibbaadjbohdaaDoor
/- The functions' bodies, translated. Written by a program; no conditions. -/
namespace Go.Proofs.YtgibbaadjbohdaaDoor
open Go.RowKit Lift

def cpparts_hangar_machine : ACode :=
 (.seq
 (.region false [oo 4 (.mv (.const (.bool false)))] [])
 (.seq
 (.region false [oo 5 (.mv (.tmp 1)),
 oo 6 (.mv (.tmp 0)),
 oo 7 (.nilc (.tmp 6)),
 oo 8 (.fad 0 (.tmp 7)),
 oo 9 (.fad 2 (.tmp 8)),
 oo 10 (.load1 (.tmp 9)),
 oo 11 (.bin .sub (.tmp 10) (kI 1)),
 oo 12 (.call (.func 32) [(.tmp 5), (kI 0), (.tmp 11)]),
 oo 4 (.mv (.tmp 12))] [5,6,7,8,9,10,11,12])
 .ret))
set_option maxRecDepth 100000 in
theorem kpparts_hangar_machine : IsCode Tryd.prog 67 13 cpparts_hangar_machine [.tmp 4] :=
 ⟨Tryd.f67, _, [1,0,4], Tryd.func67, rfl, by decide, rfl, by kernel_rfl, by kernel_rfl⟩
def cpparts_hangar_part : ACode :=
 (.seq
 (.region false [oo 4 (.mv (.const (.bool false)))] [])
 (.seq
 (.region false [oo 5 (.mv (.tmp 1)),
 oo 6 (.mv (.tmp 0)),
 oo 7 (.nilc (.tmp 6)),
 oo 8 (.fad 4 (.tmp 7)),
 oo 9 (.load1 (.tmp 8)),
 oo 10 (.len_ (.tmp 9)),
 oo 11 (.bin .sub (.tmp 10) (kI 1)),
 oo 12 (.call (.func 32) [(.tmp 5), (kI 0), (.tmp 11)]),
 oo 4 (.mv (.tmp 12))] [5,6,7,8,9,10,11,12])
 .ret))
set_option maxRecDepth 100000 in
theorem kpparts_hangar_part : IsCode Tryd.prog 17 13 cpparts_hangar_part [.tmp 4] :=
 ⟨Tryd.f17, _, [1,0,4], Tryd.func17, rfl, by decide, rfl, by kernel_rfl, by kernel_rfl⟩
def cpparts_hangar_order : ACode :=
 (.seq
 (.region false [oo 4 (.mv (.const (.bool false)))] [])
 (.seq
 (.region false [oo 5 (.mv (.tmp 1)),
 oo 6 (.mv (.tmp 0)),
 oo 7 (.nilc (.tmp 6)),
 oo 8 (.fad 0 (.tmp 7)),
 oo 9 (.fad 3 (.tmp 8)),
 oo 10 (.load1 (.tmp 9)),
 oo 11 (.len_ (.tmp 10)),
 oo 12 (.bin .sub (.tmp 11) (kI 1)),
 oo 13 (.call (.func 32) [(.tmp 5), (kI 0), (.tmp 12)]),
 oo 4 (.mv (.tmp 13))] [5,6,7,8,9,10,11,12,13])
 .ret))
set_option maxRecDepth 100000 in
theorem kpparts_hangar_order : IsCode Tryd.prog 51 14 cpparts_hangar_order [.tmp 4] :=
 ⟨Tryd.f51, _, [1,0,4], Tryd.func51, rfl, by decide, rfl, by kernel_rfl, by kernel_rfl⟩
def cslices_IndexFunc_L_L_Jpparts_part_Kpparts_part_J : ACode :=
 (.seq
 (.region false [oo 4 (.mv (kI 0))] [])
 (.seq
 (.seq
 (.region false [oo 6 (.mv (.tmp 0)),
 oo 7 (.len_ (.tmp 6)),
 oo 8 (.mv (kI 0))] [6])
 (.block 0
 (.loop
 (.seq
 (.region false [oo 9 (.bin .lss (.tmp 8) (.tmp 7))] [])
 (.seq
 (.cond (.tmp 9)
 .skip
 (.exit 0))
 (.seq
 (.block 1
 (.seq
 (.region false [oo 10 (.mv (.tmp 8)),
 oo 5 (.mv (.tmp 10))] [10])
 (.seq
 (.region false [oo 11 (.mv (.tmp 1)),
 oo 12 (.mv (.tmp 0)),
 oo 13 (.mv (.tmp 5)),
 oo 14 (.iadS 1 (.tmp 12) (.tmp 13)),
 oo 15 (.load1 (.tmp 14)),
 oo 16 (.call (.tmp 11) [(.tmp 15)])] [11,12,13,14,15])
 (.cond (.tmp 16)
 (.seq
 (.region false [oo 17 (.mv (.tmp 5)),
 oo 4 (.mv (.tmp 17))] [17])
 .ret)
 .skip))))
 (.region false [oo 18 (.bin .add (.tmp 8) (kI 1)),
 oo 8 (.mv (.tmp 18))] [18])))))))
 (.seq
 (.region false [oo 4 (.mv (kI (-1)))] [])
 .ret)))
set_option maxRecDepth 100000 in
theorem kslices_IndexFunc_L_L_Jpparts_part_Kpparts_part_J : IsCode Tryd.prog 75 19 cslices_IndexFunc_L_L_Jpparts_part_Kpparts_part_J [.tmp 4] :=
 ⟨Tryd.f75, _, [16,9,0,8,7,1,5,4], Tryd.func75, rfl, by decide, rfl, by kernel_rfl, by kernel_rfl⟩
def cpparts_hangar_at_S1 : ACode :=
 (.seq
 (.region false [oo 4 (.mv (.const (.bool false)))] [])
 (.seq
 (.region true [oo 5 (.mv (.tmp 0)),
 oa 6 (.nilc (.tmp 5)) [0],
 oa 7 (.fad 0 (.tmp 6)) [1,0],
 oa 8 (.fad 0 (.tmp 7)) [2,1,0],
 oa 9 (.load1 (.tmp 8)) [3,2,1,0],
 oo 10 (.load1 (.tmp 1)),
 oa 11 (.bin .eql (.tmp 9) (.tmp 10)) [4,3,2,1,0,5],
 oa 12 (.mv (.tmp 11)) [6,4,3,2,1,0,5],
 og 13 12 true (.mv (.tmp 0)) [7,6,4,3,2,1,0,5],
 og 14 12 true (.nilc (.tmp 13)) [8,7,6,4,3,2,1,0,5],
 og 15 12 true (.fad 4 (.tmp 14)) [9,8,7,6,4,3,2,1,0,5],
 og 16 12 true (.loadN 2 (.tmp 15)) [10,9,8,7,6,4,3,2,1,0,5],
 og 17 12 true (.loadN 2 (.tmp 2)) [7,6,4,3,2,1,0,5],
 og 18 12 true (.eqa false [false, false] (.tmp 16) (.tmp 17)) [11,10,9,8,7,6,4,3,2,1,0,5,12],
 oa 19 (.pick (.tmp 12) (.tmp 18) (.const (.bool false))) [7,6,4,3,2,1,0,5,13,11,10,9,8,12],
 oa 4 (.mv (.tmp 19)) [14,7,6,4,3,2,1,0,5,13,11,10,9,8,12]] [5,6,7,8,9,10,11,12,13,14,15,16,17,18,19])
 .ret))
set_option maxRecDepth 100000 in
theorem kpparts_hangar_at_S1 : IsCode Tryd.prog 76 20 cpparts_hangar_at_S1 [.tmp 4] :=
 ⟨Tryd.f76, _, [0,1,2,4], Tryd.func76, rfl, by decide, rfl, by kernel_rfl, by kernel_rfl⟩
def cpparts_hangar_at : ACode :=
 (.seq
 (.region false [oo 4 (.box (.tmp 1)),
 oo 5 (.box (.tmp 2)),
 oo 6 (.mv (kI 0))] [])
 (.seq
 (.region false [oo 7 (.mv (.tmp 0)),
 oo 8 (.nilc (.tmp 7)),
 oo 9 (.fad 4 (.tmp 8)),
 oo 10 (.load1 (.tmp 9)),
 oo 11 (.mkfn 76 [] [(.tmp 4), (.tmp 5)]),
 oo 12 (.call (.func 75) [(.tmp 10), (.tmp 11)]),
 oo 6 (.mv (.tmp 12))] [7,8,9,10,11,12])
 .ret))
set_option maxRecDepth 100000 in
theorem kpparts_hangar_at : IsCode Tryd.prog 69 13 cpparts_hangar_at [.tmp 6] :=
 ⟨Tryd.f69, _, [1,2,0,4,5,6], Tryd.func69, rfl, by decide, rfl, by kernel_rfl, by kernel_rfl⟩
def cpparts_hangar_lacks : ACode :=
 (.seq
 (.region false [oo 4 (.mv (.const (.slice none 0 0)))] [])
 (.seq
 (.seq
 (.region false [oo 8 (.mv (.tmp 0)),
 oo 9 (.nilc (.tmp 8)),
 oo 10 (.fad 0 (.tmp 9)),
 oo 11 (.fad 0 (.tmp 10)),
 oo 12 (.load1 (.tmp 11)),
 oo 13 (.len_ (.tmp 12)),
 oo 14 (.mv (kI 0))] [8,9,10,11])
 (.block 0
 (.loop
 (.seq
 (.region false [oo 15 (.bin .lss (.tmp 14) (.tmp 13))] [])
 (.seq
 (.cond (.tmp 15)
 .skip
 (.exit 0))
 (.seq
 (.block 1
 (.seq
 (.region false [oo 16 (.mv (.tmp 14)),
 oo 17 (.iadS 3 (.tmp 12) (.tmp 14)),
 oo 18 (.loadN 3 (.tmp 17)),
 oo 6 (.mem [(.val (.int .i64 0)), (.val (.int .i64 0)), (.val (.int .i64 0))]),
 oo 5 (.mv (.tmp 16)),
 on (.store 3 (.tmp 6) (.tmp 18))] [16,17,18])
 (.seq
 (.region false [oo 19 (.fad 2 (.tmp 6)),
 oo 20 (.load1 (.tmp 19)),
 oo 21 (.mv (kI 0))] [19])
 (.block 2
 (.loop
 (.seq
 (.region false [oo 22 (.bin .lss (.tmp 21) (.tmp 20))] [])
 (.seq
 (.cond (.tmp 22)
 .skip
 (.exit 2))
 (.seq
 (.block 3
 (.seq
 (.region false [oo 23 (.mv (.tmp 21)),
 oo 7 (.mv (.tmp 23))] [23])
 (.seq
 (.region false [oo 24 (.mv (.tmp 0)),
 oo 25 (.mv (.tmp 5)),
 oo 26 (.mv (.tmp 1)),
 oo 27 (.mv (.tmp 7)),
 oo 28 (.build [(.val (.int .i64 0)), (.val (.int .i64 0))] [(0,1, (.tmp 26)), (1,1, (.tmp 27))]),
 oo 29 (.call (.func 69) [(.tmp 24), (.tmp 25), (.tmp 28)]),
 oo 30 (.bin .lss (.tmp 29) (kI 0))] [24,25,26,27,28,29])
 (.cond (.tmp 30)
 (.region false [oo 31 (.mv (.tmp 4)),
 oo 32 (.mv (.tmp 5)),
 oo 33 (.mv (.tmp 7)),
 oo 34 (.build [(.val (.int .i64 0)), (.val (.int .i64 0))] [(0,1, (.tmp 32)), (1,1, (.tmp 33))]),
 oo 35 (.buildSl 2 1 [(.val (.int .i64 0)), (.val (.int .i64 0))] [(0,2, (.tmp 34))]),
 oo 36 (.app 2 16 (.tmp 31) (.tmp 35)),
 oo 4 (.mv (.tmp 36))] [31,32,33,34,35,36])
 .skip))))
 (.region false [oo 37 (.bin .add (.tmp 21) (kI 1)),
 oo 21 (.mv (.tmp 37))] [37])))))))))
 (.region false [oo 38 (.bin .add (.tmp 14) (kI 1)),
 oo 14 (.mv (.tmp 38))] [38])))))))
 (.seq
 (.region false [oo 39 (.mv (.tmp 4)),
 oo 4 (.mv (.tmp 39))] [39])
 .ret)))
set_option maxRecDepth 100000 in
theorem kpparts_hangar_lacks : IsCode Tryd.prog 74 40 cpparts_hangar_lacks [.tmp 4] :=
 ⟨Tryd.f74, _, [30,22,15,0,14,13,12,6,21,20,5,1,7,4], Tryd.func74, rfl, by decide, rfl, by kernel_rfl, by kernel_rfl⟩
def cpparts_hangar_left : ACode :=
 (.seq
 (.region false [oo 4 (.mv (kI 0)),
 oo 5 (.mv (kI 0))] [])
 (.seq
 (.region true [oo 9 (.mv (.tmp 0)),
 oa 10 (.nilc (.tmp 9)) [0],
 oa 11 (.fad 0 (.tmp 10)) [1,0],
 oa 12 (.fad 0 (.tmp 11)) [2,1,0],
 oa 13 (.load1 (.tmp 12)) [3,2,1,0],
 oo 14 (.mv (.tmp 1)),
 oa 15 (.nilc (.tmp 14)) [5],
 oa 16 (.fad 0 (.tmp 15)) [6,5],
 oa 17 (.fad 0 (.tmp 16)) [7,6,5],
 oa 18 (.load1 (.tmp 17)) [8,7,6,5],
 oa 19 (.iadS 3 (.tmp 13) (.tmp 18)) [4,3,2,1,0,9,8,7,6,5],
 oa 20 (.loadN 3 (.tmp 19)) [10,4,3,2,1,0,9,8,7,6,5],
 oo 6 (.mem [(.val (.int .i64 0)), (.val (.int .i64 0)), (.val (.int .i64 0))]),
 ⟨none, .store 3 (.tmp 6) (.tmp 20), none, [12,11,10,4,3,2,1,0,9,8,7,6,5]⟩] [9,10,11,12,13,14,15,16,17,18,19,20])
 (.seq
 (.region true [oo 21 (.fad 0 (.tmp 6)),
 oa 22 (.load1 (.tmp 21)) [0],
 oo 23 (.mv (.tmp 1)),
 oa 24 (.nilc (.tmp 23)) [2],
 oa 25 (.fad 0 (.tmp 24)) [3,2],
 oa 26 (.fad 1 (.tmp 25)) [4,3,2],
 oa 27 (.load1 (.tmp 26)) [5,4,3,2],
 oa 28 (.bin .sub (.tmp 22) (.tmp 27)) [1,0,6,5,4,3,2],
 oo 29 (.fad 1 (.tmp 6)),
 oa 30 (.load1 (.tmp 29)) [8],
 oo 31 (.mv (.tmp 1)),
 oa 32 (.nilc (.tmp 31)) [10],
 oa 33 (.fad 0 (.tmp 32)) [11,10],
 oa 34 (.fad 2 (.tmp 33)) [12,11,10],
 oa 35 (.load1 (.tmp 34)) [13,12,11,10],
 oa 36 (.bin .sub (.tmp 30) (.tmp 35)) [9,8,14,13,12,11,10],
 oa 4 (.mv (.tmp 28)) [7,1,0,6,5,4,3,2],
 oa 5 (.mv (.tmp 36)) [15,9,8,14,13,12,11,10,16,7,1,0,6,5,4,3,2]] [21,22,23,24,25,26,27,28,29,30,31,32,33,34,35,36])
 (.seq
 (.seq
 (.region false [oo 37 (.mv (.tmp 0)),
 oo 38 (.nilc (.tmp 37)),
 oo 39 (.fad 0 (.tmp 38)),
 oo 40 (.fad 3 (.tmp 39)),
 oo 41 (.load1 (.tmp 40)),
 oo 42 (.len_ (.tmp 41)),
 oo 43 (.mv (kI 0))] [37,38,39,40])
 (.block 0
 (.loop
 (.seq
 (.region false [oo 44 (.bin .lss (.tmp 43) (.tmp 42))] [])
 (.seq
 (.cond (.tmp 44)
 .skip
 (.exit 0))
 (.seq
 (.block 1
 (.seq
 (.region false [oo 45 (.mv (.tmp 43)),
 oo 46 (.iadS 2 (.tmp 41) (.tmp 43)),
 oo 47 (.loadN 2 (.tmp 46)),
 oo 8 (.mem [(.val (.int .i64 0)), (.val (.int .i64 0))]),
 oo 7 (.mv (.tmp 45)),
 on (.store 2 (.tmp 8) (.tmp 47))] [45,46,47])
 (.seq
 (.region true [oo 48 (.mv (.tmp 0)),
 oa 49 (.nilc (.tmp 48)) [0],
 oa 50 (.fad 5 (.tmp 49)) [1,0],
 oa 51 (.load1 (.tmp 50)) [2,1,0],
 oo 52 (.mv (.tmp 7)),
 oa 53 (.iadS 1 (.tmp 51) (.tmp 52)) [3,2,1,0,4],
 oa 54 (.load1 (.tmp 53)) [5,3,2,1,0,4],
 oa 55 (.mv (.tmp 54)) [6,5,3,2,1,0,4],
 og 56 55 true (.fad 0 (.tmp 8)) [7,6,5,3,2,1,0,4],
 og 57 55 true (.load1 (.tmp 56)) [8,7,6,5,3,2,1,0,4],
 og 58 55 true (.mv (.tmp 1)) [7,6,5,3,2,1,0,4],
 og 59 55 true (.nilc (.tmp 58)) [10,7,6,5,3,2,1,0,4],
 og 60 55 true (.fad 0 (.tmp 59)) [11,10,7,6,5,3,2,1,0,4],
 og 61 55 true (.fad 0 (.tmp 60)) [12,11,10,7,6,5,3,2,1,0,4],
 og 62 55 true (.load1 (.tmp 61)) [13,12,11,10,7,6,5,3,2,1,0,4],
 og 63 55 true (.bin .eql (.tmp 57) (.tmp 62)) [9,8,7,6,5,3,2,1,0,4,14,13,12,11,10],
 oa 64 (.pick (.tmp 55) (.tmp 63) (.const (.bool false))) [7,6,5,3,2,1,0,4,15,9,8,14,13,12,11,10],
 oa 65 (.mv (.tmp 64)) [16,7,6,5,3,2,1,0,4,15,9,8,14,13,12,11,10],
 og 66 65 true (.mv (.tmp 1)) [17,16,7,6,5,3,2,1,0,4,15,9,8,14,13,12,11,10],
 og 67 65 true (.nilc (.tmp 66)) [18,17,16,7,6,5,3,2,1,0,4,15,9,8,14,13,12,11,10],
 og 68 65 true (.fad 7 (.tmp 67)) [19,18,17,16,7,6,5,3,2,1,0,4,15,9,8,14,13,12,11,10],
 og 69 65 true (.load1 (.tmp 68)) [20,19,18,17,16,7,6,5,3,2,1,0,4,15,9,8,14,13,12,11,10],
 og 70 65 true (.mv (.tmp 7)) [17,16,7,6,5,3,2,1,0,4,15,9,8,14,13,12,11,10],
 og 71 65 true (.iadS 1 (.tmp 69) (.tmp 70)) [21,20,19,18,17,16,7,6,5,3,2,1,0,4,15,9,8,14,13,12,11,10,22],
 og 72 65 true (.load1 (.tmp 71)) [23,21,20,19,18,17,16,7,6,5,3,2,1,0,4,15,9,8,14,13,12,11,10,22],
 og 73 65 true (.un .not (.tmp 72)) [24,23,21,20,19,18,17,16,7,6,5,3,2,1,0,4,15,9,8,14,13,12,11,10,22],
 oa 74 (.pick (.tmp 65) (.tmp 73) (.const (.bool false))) [17,16,7,6,5,3,2,1,0,4,15,9,8,14,13,12,11,10,25,24,23,21,20,19,18,22]] [48,49,50,51,52,53,54,55,56,57,58,59,60,61,62,63,64,65,66,67,68,69,70,71,72,73])
 (.cond (.tmp 74)
 (.region true [oo 75 (.mv (.tmp 4)),
 oo 76 (.fad 1 (.tmp 8)),
 oa 77 (.load1 (.tmp 76)) [1],
 oo 78 (.mv (.tmp 1)),
 oa 79 (.nilc (.tmp 78)) [3],
 oa 80 (.fad 6 (.tmp 79)) [4,3],
 oa 81 (.load1 (.tmp 80)) [5,4,3],
 oo 82 (.mv (.tmp 7)),
 oa 83 (.iadS 1 (.tmp 81) (.tmp 82)) [6,5,4,3,7],
 oa 84 (.load1 (.tmp 83)) [8,6,5,4,3,7],
 oa 85 (.bin .sub (.tmp 77) (.tmp 84)) [2,1,9,8,6,5,4,3,7],
 oa 86 (.mnx false [(.tmp 75), (.tmp 85)]) [0,10,2,1,9,8,6,5,4,3,7],
 oa 4 (.mv (.tmp 86)) [11,0,10,2,1,9,8,6,5,4,3,7]] [75,76,77,78,79,80,81,82,83,84,85,86])
 .skip))))
 (.region false [oo 87 (.bin .add (.tmp 43) (kI 1)),
 oo 43 (.mv (.tmp 87))] [87])))))))
 (.seq
 (.region false [oo 88 (.mv (.tmp 4)),
 oo 89 (.mv (.tmp 5)),
 oo 4 (.mv (.tmp 88)),
 oo 5 (.mv (.tmp 89))] [88,89])
 .ret)))))
set_option maxRecDepth 100000 in
theorem kpparts_hangar_left : IsCode Tryd.prog 18 90 cpparts_hangar_left [.tmp 4, .tmp 5] :=
 ⟨Tryd.f18, _, [74,44,0,1,6,43,42,41,7,8,4,5], Tryd.func18, rfl, by decide, rfl, by kernel_rfl, by kernel_rfl⟩
def cpparts_hangar_longest : ACode :=
 (.seq
 (.region false [oo 6 (.mv (kI 0))] [])
 (.seq
 (.seq
 (.region false [oo 12 (.mv (.tmp 0)),
 oo 13 (.mv (.tmp 1)),
 oo 14 (.call (.func 74) [(.tmp 12), (.tmp 13)]),
 oo 15 (.len_ (.tmp 14)),
 oo 16 (.bin .gtr (.tmp 15) (kI 0))] [12,13,14,15])
 (.cond (.tmp 16)
 (.seq
 (.region false [oo 6 (.mv (kI (-1)))] [])
 .ret)
 .skip))
 (.seq
 (.region false [oo 7 (.mv (kI 100))] [])
 (.seq
 (.seq
 (.region false [oo 17 (.mv (.tmp 0)),
 oo 18 (.nilc (.tmp 17)),
 oo 19 (.fad 4 (.tmp 18)),
 oo 20 (.load1 (.tmp 19)),
 oo 21 (.len_ (.tmp 20)),
 oo 22 (.mv (kI 0))] [17,18,19])
 (.block 0
 (.loop
 (.seq
 (.region false [oo 23 (.bin .lss (.tmp 22) (.tmp 21))] [])
 (.seq
 (.cond (.tmp 23)
 .skip
 (.exit 0))
 (.seq
 (.block 1
 (.seq
 (.region false [oo 24 (.iadS 1 (.tmp 20) (.tmp 22)),
 oo 25 (.load1 (.tmp 24)),
 oo 9 (.mv (.tmp 25))] [24,25])
 (.seq
 (.seq
 (.region false [oo 26 (.mv (.tmp 9)),
 oo 27 (.nilc (.tmp 26)),
 oo 28 (.fad 4 (.tmp 27)),
 oo 29 (.iadA 2 1 (.tmp 28) (kI 0)),
 oo 30 (.load1 (.tmp 29)),
 oo 31 (.mv (.tmp 1)),
 oo 32 (.bin .neq (.tmp 30) (.tmp 31))] [26,27,28,29,30,31])
 (.cond (.tmp 32)
 (.exit 1)
 .skip))
 (.seq
 (.region false [oo 34 (.mv (.tmp 0)),
 oo 35 (.mv (.tmp 9)),
 oo 36 (.call (.func 18) [(.tmp 34), (.tmp 35)]),
 oo 33 (.mv (.tmp 36)),
 oo 37 (.ext (.tmp 33) 0),
 oo 38 (.ext (.tmp 33) 1),
 oo 10 (.mv (.tmp 37)),
 oo 11 (.mv (.tmp 38))] [34,35,36,33,37,38])
 (.seq
 (.seq
 (.region false [oo 39 (.mv (.tmp 11)),
 oo 40 (.mv (.tmp 2)),
 oo 41 (.bin .lss (.tmp 39) (.tmp 40))] [39,40])
 (.cond (.tmp 41)
 (.seq
 (.region false [oo 6 (.mv (kI (-1)))] [])
 .ret)
 .skip))
 (.region false [oo 42 (.mv (.tmp 7)),
 oo 43 (.mv (.tmp 10)),
 oo 44 (.mnx false [(.tmp 42), (.tmp 43)]),
 oo 7 (.mv (.tmp 44))] [42,43,44]))))))
 (.region false [oo 45 (.bin .add (.tmp 22) (kI 1)),
 oo 22 (.mv (.tmp 45))] [45])))))))
 (.seq
 (.region false [oo 46 (.mv (.tmp 7)),
 oo 6 (.mv (.tmp 46))] [46])
 .ret)))))
set_option maxRecDepth 100000 in
theorem kpparts_hangar_longest : IsCode Tryd.prog 68 47 cpparts_hangar_longest [.tmp 6] :=
 ⟨Tryd.f68, _, [41,32,23,16,0,1,22,21,20,9,11,2,7,10,6], Tryd.func68, rfl, by decide, rfl, by kernel_rfl, by kernel_rfl⟩
end Go.Proofs.YtgibbaadjbohdaaDoor
/- parts: a hangar as it is read: machine, part, order, at. No conditions. -/
namespace Go.Proofs.YtgibbaadjbohdaaDoor
open Go Go.RowKit Lift

structure Prt where
  kd : Int
  h : Int
  c : Int
  kn : Bool
  m : Int
  pl : Int
  since : List Int
  chk : List Bool
  hist : List (List Int)
  hn : Nat
structure Hg where
  rg : Reg
  pts : List Prt
  iss : List Bool
  fl : List (Int × Int)
  works : Int
  pv : Nat
def ptV (p : Prt) : D := .at_ [dI p.kd, dI p.h, dI p.c, dB p.kn, dI p.m, dI p.pl, .list (ints p.since), .list (bools p.chk)]
def pvs (l : List Prt) : List (List D) := (l.map ptV).map fun d => [d]
def hgV (S : Hg) : D := .at_ [.list (kds S.rg.ks), .bot, dI S.rg.ms, .list (ods S.rg.os), .list (pvs S.pts), .list (bools S.iss), .bot, .bot, .bot]
theorem pvs_len (l : List Prt) : (pvs l).length = l.length := by simp [pvs]
theorem pvs_all (l : List Prt) : (pvs l).all (fun x => x.length == 1) = true := by simp [pvs]
theorem pvs_nth (l : List Prt) (k : Nat) (p : Prt) (h : l[k]? = some p) : (pvs l)[k]? = some [ptV p] := by simp [pvs, h]
def machB (S : Hg) (n : Int) : Bool := wI n 0 (w64 (S.rg.ms - 1))
def partB (S : Hg) (n : Int) : Bool := wI n 0 (w64 (S.pts.length - 1))
def ordB (S : Hg) (n : Int) : Bool := wI n 0 (w64 (S.rg.os.length - 1))
set_option maxRecDepth 100000 in
set_option maxHeartbeats 1000000 in
theorem mach_ac (S : Hg) (n : Int) : AC Tryd.prog 67 [hgV S, dI n] [] [] (dB (machB S n)) := by
  refine kpparts_hangar_machine.ac (n0 := 0) (by simp) ⟨.at_ _, .val _, trivial⟩ trivial rfl ?_
  unfold cpparts_hangar_machine machB hgV
  have c1 := pwithin_ac n 0 (w64 (S.rg.ms - 1))
  unfold w64 at *
  (repeat' (first | (with_reducible first | refine thenQ_n ?_ | refine blockQ_n ?_ | refine thenQ_e ?_ | refine blockQ_t ?_ | refine blockQ_f (by decide) ?_) | apply aw_seq | apply aw_skip | apply aw_exit | apply aw_ret | apply aw_block | apply aw_condT rfl | apply aw_condF rfl | ((first | refine aw_hide fun K hK => aw_region ?_ | refine acall0 (c1) ?_ | refine ago_if (by omega) ?_ | skip); simp (disch := first | exact okY | omega) only [ZU, Nat.reduceMul, dI, AOpRun, aexec, Nat.reduceBEq, Nat.reduceAdd, ↓eget_h, List.drop, run1, isSh, ↓reduceIte, abin, dB]) | subst hK))
  all_goals (refine end_q [] [] ?_ ?_ <;> repeat' (first | exact trivial | exact vr_val _))
set_option maxRecDepth 100000 in
set_option maxHeartbeats 1000000 in
theorem part_ac (S : Hg) (n : Int) : AC Tryd.prog 17 [hgV S, dI n] [] [] (dB (partB S n)) := by
  refine kpparts_hangar_part.ac (n0 := 0) (by simp) ⟨.at_ _, .val _, trivial⟩ trivial rfl ?_
  unfold cpparts_hangar_part partB hgV
  have c1 := pwithin_ac n 0 (w64 (S.pts.length - 1))
  unfold w64 at *
  (repeat' (first | (with_reducible first | refine thenQ_n ?_ | refine blockQ_n ?_ | refine thenQ_e ?_ | refine blockQ_t ?_ | refine blockQ_f (by decide) ?_) | apply aw_seq | apply aw_skip | apply aw_exit | apply aw_ret | apply aw_block | apply aw_condT rfl | apply aw_condF rfl | ((first | refine aw_hide fun K hK => aw_region ?_ | refine acall0 (c1) ?_ | refine ago_if (by omega) ?_ | skip); simp (disch := first | exact okY | omega) only [ZU, Nat.reduceMul, dI, AOpRun, aexec, Nat.reduceBEq, Nat.reduceAdd, ↓eget_h, List.drop, run1, pvs_len, isSh, ↓reduceIte, abin, dB]) | subst hK))
  all_goals (refine end_q [] [] ?_ ?_ <;> repeat' (first | exact trivial | exact vr_val _))
set_option maxRecDepth 100000 in
set_option maxHeartbeats 1000000 in
theorem ord_ac (S : Hg) (n : Int) : AC Tryd.prog 51 [hgV S, dI n] [] [] (dB (ordB S n)) := by
  refine kpparts_hangar_order.ac (n0 := 0) (by simp) ⟨.at_ _, .val _, trivial⟩ trivial rfl ?_
  unfold cpparts_hangar_order ordB hgV
  have c1 := pwithin_ac n 0 (w64 (S.rg.os.length - 1))
  unfold w64 at *
  (repeat' (first | (with_reducible first | refine thenQ_n ?_ | refine blockQ_n ?_ | refine thenQ_e ?_ | refine blockQ_t ?_ | refine blockQ_f (by decide) ?_) | apply aw_seq | apply aw_skip | apply aw_exit | apply aw_ret | apply aw_block | apply aw_condT rfl | apply aw_condF rfl | ((first | refine aw_hide fun K hK => aw_region ?_ | refine acall0 (c1) ?_ | refine ago_if (by omega) ?_ | skip); simp (disch := first | exact okY | omega) only [ZU, Nat.reduceMul, dI, AOpRun, aexec, Nat.reduceBEq, Nat.reduceAdd, ↓eget_h, List.drop, run1, ods_len, isSh, ↓reduceIte, abin, dB]) | subst hK))
  all_goals (refine end_q [] [] ?_ ?_ <;> repeat' (first | exact trivial | exact vr_val _))
def atB (k m pl : Int) (p : Prt) : Bool := (p.kd == k) && ((p.m == m) && (p.pl == pl))
set_option maxRecDepth 100000 in
set_option maxHeartbeats 1000000 in
theorem at1_ac (p : Prt) (k m pl : Int) : AC Tryd.prog 76 ([ptV p] ++ [.at_ [dI k], .at_ [dI m, dI pl]]) [] [] (dB (atB k m pl p)) := by
  refine kpparts_hangar_at_S1.ac (n0 := 0) (by simp) ⟨.at_ _, .at_ _, .at_ _, trivial⟩ trivial rfl ?_
  unfold cpparts_hangar_at_S1 atB ptV
  cases q1 : (p.kd == k) <;> cases q2 : (p.m == m) <;> cases q3 : (p.pl == pl)
  all_goals
    (repeat' (first | (with_reducible first | refine thenQ_n ?_ | refine blockQ_n ?_ | refine thenQ_e ?_ | refine blockQ_t ?_ | refine blockQ_f (by decide) ?_) | apply aw_seq | apply aw_skip | apply aw_exit | apply aw_ret | apply aw_block | apply aw_condT rfl | apply aw_condF rfl | ((first | refine aw_hide fun K hK => aw_region ?_ | refine ago_if (by omega) ?_ | skip); simp (disch := first | exact okY | omega) only [ZU, Nat.reduceMul, dI, dB, Nat.reduceAdd, AOpRun, aexec, Nat.reduceBEq, ↓eget_h, List.drop, run1, isSh, ↓reduceIte, abin, q1, ARun_some, AG_ft, Bool.and_false, AG_tt, Nat.reduceLeDiff, List.take, D.isAgg, D.cells, isB, eqCells, scalarEq, q2, q3, bne_self_eq_false]) | subst hK))
    all_goals (refine end_q [] [] ?_ ?_ <;> repeat' (first | exact trivial | exact vr_val _))
set_option maxRecDepth 100000 in
set_option maxHeartbeats 1000000 in
theorem ifPart2_ac (F : FuncId) (a b : List D) (p : Prt → Bool) (hF : ∀ x : Prt, AC Tryd.prog F ([ptV x] ++ [.at_ a, .at_ b]) [] [] (dB (p x))) (l : List Prt) (hl : l.length ≤ 1000000) :
    AC Tryd.prog 75 [.list (pvs l), .fn F [] [.at_ a, .at_ b]] [] [] (dI (ixP p l)) := by
  refine kslices_IndexFunc_L_L_Jpparts_part_Kpparts_part_J.ac (n0 := 0) (by simp) ⟨.list _, .fn _ _ _ (by simp) (fun d hd => inF_in (List.all_eq_true.1 (show ([.at_ a, .at_ b] : List D).all inF = true from rfl) d hd)), trivial⟩ trivial rfl ?_
  unfold cslices_IndexFunc_L_L_Jpparts_part_Kpparts_part_J
  (repeat' (first | apply aw_seq | ((first | apply aw_skip | apply aw_exit); try simp only [thenQ, blockQ, if_true, if_false, Nat.reduceEqDiff, reduceCtorEq]) | apply aw_ret | apply aw_block | apply aw_condT rfl | apply aw_condF rfl | ((first | refine aw_region ?_ | refine ago_if (by omega) ?_ | skip); simp (disch := first | exact okY | omega) only [ZU, Int.reduceNeg, dI, Nat.reduceMul, AOpRun, aexec, Nat.reduceBEq, Nat.reduceAdd, ↓eget_h, pvs_len])))
  refine aw_loop (fun k : Nat => ⟨[(0, .list (pvs l)), (1, .fn F [] [.at_ a, .at_ b]), (7, dI l.length), (8, dI k)], [], 400⟩) (fun k => k ≤ l.length ∧ ∀ j, j < k → ∀ b, l[j]? = some b → p b = false) (fun k => l.length - k) ⟨0, ⟨by omega, fun j hj => by omega⟩, ?_⟩ ?_
  · refine wk_q [] [] ?_ ?_ <;> repeat' (first | exact trivial | exact vr_val _ | exact vr_list _ | exact vr_at _ | apply vr_fn | apply And.intro)
  rintro k ⟨hk, hin⟩
  by_cases hk2 : k < l.length
  case neg =>
    obtain rfl : k = l.length := by omega
    rw [ixP_no hin]
    (have hg : (987654321 : Nat) - 987654321 = 0 := rfl; have hr := hg; repeat' (first | apply aw_seq | ((first | apply aw_skip | apply aw_exit); try simp only [thenQ, blockQ, if_true, if_false, Nat.reduceEqDiff, reduceCtorEq]) | apply aw_ret | apply aw_block | apply aw_condT rfl | apply aw_condF rfl | (refine aw_cond rfl (fun hg => ?_) (fun hg => ?_) <;> (try (have hq := hg; simp only [Bool.not_eq_true', Bool.not_eq_false', Bool.and_eq_true, Bool.and_eq_false_iff, Bool.or_eq_true, Bool.or_eq_false_iff, decide_eq_true_eq, decide_eq_false_iff_not, bne_iff_ne, beq_iff_eq, beq_eq_false_iff_ne, bne_eq_false_iff_eq, ne_eq, Int.not_lt, Int.not_le, Decidable.not_not] at hq)) <;> (try (have hr := hg; simp only [decide_eq_true_eq, decide_eq_false_iff_not] at hr)) <;> (try (exfalso; omega))) | ((first | refine aw_region ?_ | refine ago_if (by omega) ?_ | skip); simp (disch := first | exact okY | omega) only [ZU, dI, Int.reduceNeg, Nat.reduceMul, Nat.reduceAdd, AOpRun, aexec, Nat.reduceBEq, ↓eget_h, isSh, ↓reduceIte, abin, hr, decide_false])))
    all_goals (refine end_q [] [] ?_ ?_ <;> repeat' (first | exact trivial | exact vr_val _))
  obtain ⟨x, ha⟩ := nthI hk2
  have g1 := pvs_nth l k x ha
  have ga := pvs_all l
  have hc := hF x
  unfold ptV at g1 hc
  cases he : p x with
  | true =>
    rw [ixP_at ha he hin]
    rw [he] at hc
    (have hg : (987654321 : Nat) - 987654321 = 0 := rfl; have hr := hg; repeat' (first | apply aw_seq | ((first | apply aw_skip | apply aw_exit); try simp only [thenQ, blockQ, if_true, if_false, Nat.reduceEqDiff, reduceCtorEq]) | apply aw_ret | apply aw_block | apply aw_condT rfl | apply aw_condF rfl | (refine aw_cond rfl (fun hg => ?_) (fun hg => ?_) <;> (try (have hq := hg; simp only [Bool.not_eq_true', Bool.not_eq_false', Bool.and_eq_true, Bool.and_eq_false_iff, Bool.or_eq_true, Bool.or_eq_false_iff, decide_eq_true_eq, decide_eq_false_iff_not, bne_iff_ne, beq_iff_eq, beq_eq_false_iff_ne, bne_eq_false_iff_eq, ne_eq, Int.not_lt, Int.not_le, Decidable.not_not] at hq)) <;> (try (have hr := hg; simp only [decide_eq_true_eq, decide_eq_false_iff_not] at hr)) <;> (try (exfalso; omega))) | ((first | refine aw_region ?_ | refine acall0 (hc) ?_ | refine ago_if (by omega) ?_ | skip); simp (disch := first | exact okY | omega) only [ZU, dI, Int.reduceNeg, Nat.reduceMul, Nat.reduceAdd, AOpRun, aexec, Nat.reduceBEq, ↓eget_h, isSh, ↓reduceIte, abin, hr, ga, opt1, g1, dB, run1, blockQ])))
    all_goals (refine end_q [] [] ?_ ?_ <;> repeat' (first | exact trivial | exact vr_val _))
  | false =>
    rw [he] at hc
    (have hg : (987654321 : Nat) - 987654321 = 0 := rfl; have hr := hg; repeat' (first | apply aw_seq | ((first | apply aw_skip | apply aw_exit); try simp only [thenQ, blockQ, if_true, if_false, Nat.reduceEqDiff, reduceCtorEq]) | apply aw_ret | apply aw_block | apply aw_condT rfl | apply aw_condF rfl | (refine aw_cond rfl (fun hg => ?_) (fun hg => ?_) <;> (try (have hq := hg; simp only [Bool.not_eq_true', Bool.not_eq_false', Bool.and_eq_true, Bool.and_eq_false_iff, Bool.or_eq_true, Bool.or_eq_false_iff, decide_eq_true_eq, decide_eq_false_iff_not, bne_iff_ne, beq_iff_eq, beq_eq_false_iff_ne, bne_eq_false_iff_eq, ne_eq, Int.not_lt, Int.not_le, Decidable.not_not] at hq)) <;> (try (have hr := hg; simp only [decide_eq_true_eq, decide_eq_false_iff_not] at hr)) <;> (try (exfalso; omega))) | ((first | refine aw_region ?_ | refine acall0 (hc) ?_ | refine ago_if (by omega) ?_ | skip); simp (disch := first | exact okY | omega) only [ZU, dI, Int.reduceNeg, Nat.reduceMul, Nat.reduceAdd, AOpRun, aexec, Nat.reduceBEq, ↓eget_h, isSh, ↓reduceIte, abin, hr, ga, opt1, g1, dB, run1, fits])))
    refine ⟨k + 1, ⟨by omega, fun j hj b hb => ?_⟩, by omega, by refine wk_q [] [] ?_ ?_ <;> repeat' (first | exact trivial | exact vr_val _ | exact vr_list _ | exact vr_at _ | apply vr_fn | apply And.intro)⟩
    rcases (by omega : j < k ∨ j = k) with h | rfl
    · exact hin j h b hb
    · rw [ha] at hb; cases hb; exact he
def atI (S : Hg) (k m pl : Int) : Int := ixP (atB k m pl) S.pts
set_option maxRecDepth 100000 in
set_option maxHeartbeats 1000000 in
theorem hat_ac (S : Hg) (k m pl : Int) (hl : S.pts.length ≤ 1000000) : AC Tryd.prog 69 [hgV S, dI k, .agg [dI m, dI pl]] [] [] (dI (atI S k m pl)) := by
  refine kpparts_hangar_at.ac (n0 := 0) (by simp) ⟨.at_ _, .val _, .agg _ (by intro d hd; simp at hd; rcases hd with rfl | rfl <;> exact .val _), trivial⟩ trivial rfl ?_
  unfold cpparts_hangar_at atI hgV
  have c1 := ifPart2_ac _ _ _ _ (fun x => at1_ac x k m pl) S.pts hl
  generalize ixP (atB k m pl) S.pts = i at *
  (repeat' (first | (with_reducible first | refine thenQ_n ?_ | refine blockQ_n ?_ | refine thenQ_e ?_ | refine blockQ_t ?_ | refine blockQ_f (by decide) ?_) | apply aw_seq | apply aw_skip | apply aw_exit | apply aw_ret | apply aw_block | apply aw_condT rfl | apply aw_condF rfl | ((first | refine aw_hide fun K hK => aw_region ?_ | refine acall (c1) [0, 8] ⟨.refl _, vw_fn2 (vw_obj (by simp) rfl (VwL.refl _) rfl) (vw_obj (by simp) rfl (VwL.refl _) rfl), trivial⟩ (.inr (.val _)) (by simp only [List.mem_cons, List.not_mem_nil, or_false, forall_eq_or_imp, forall_eq]; first | exact ⟨_, rfl⟩ | exact ⟨⟨_, rfl⟩, ⟨_, rfl⟩⟩) (by kernel_rfl) ?_ | refine ago_if (by omega) ?_ | skip); simp (disch := first | exact okY | omega) only [ZU, Nat.reduceAdd, Nat.reduceMul, dI, AOpRun, aexec, D.isBot, Nat.reduceBEq, ↓eget_h, or_self, ↓reduceIte, D.cells, List.drop, run1]) | subst hK))
  all_goals (refine end_q [] [] ?_ ?_ <;> repeat' (first | exact trivial | exact vr_val _))
end Go.Proofs.YtgibbaadjbohdaaDoor
/- parts: what a machine lacks (views last). No conditions. -/
namespace Go.Proofs.YtgibbaadjbohdaaDoor
open Go Go.RowKit Lift

theorem sc_snc2 (L : List (Int × Int)) (x y : Int) : scells L ++ [.val (.int .i64 x), .val (.int .i64 y)] = scells (L ++ [(x, y)]) := by
  rw [← sps_flat, ← sps_flat]; simp [sps]
theorem sc_tk2 (L : List (Int × Int)) : (scells L).take (L.length * 2) = scells L := List.take_of_length_le (by rw [scells_len]; omega)
def kpl (S : Hg) (k : Nat) : Int := (S.rg.ks[k]?.getD ⟨0, 0, 0⟩).p
def lkp (S : Hg) (m : Int) (k : Nat) : Nat → List (Int × Int)
  | 0 => []
  | j + 1 => if atI S k m j < 0 then lkp S m k j ++ [((k : Int), (j : Int))] else lkp S m k j
def lkk (S : Hg) (m : Int) : Nat → List (Int × Int)
  | 0 => []
  | k + 1 => lkk S m k ++ lkp S m k (kpl S k).toNat
def lkA (S : Hg) (m : Int) : List (Int × Int) := lkk S m S.rg.ks.length
theorem lkp_len (S : Hg) (m : Int) (k : Nat) : ∀ j, (lkp S m k j).length ≤ j
  | 0 => by simp [lkp]
  | j + 1 => by
    have := lkp_len S m k j
    unfold lkp
    split
    · simp; omega
    · omega
theorem lkk_len (S : Hg) (m : Int) (hp : ∀ k, kpl S k ≤ 4) : ∀ k, (lkk S m k).length ≤ 4 * k
  | 0 => by simp [lkk]
  | k + 1 => by
    have h1 := lkk_len S m hp k
    have h2 := lkp_len S m k (kpl S k).toNat
    have h3 := hp k
    unfold lkk
    rw [List.length_append]
    omega
set_option maxRecDepth 100000 in
set_option maxHeartbeats 8000000 in
theorem lacks_ac (S : Hg) (m : Int) (hk : S.rg.ks.length ≤ 6) (hp4 : ∀ k, kpl S k ≤ 4) (hpl : S.pts.length ≤ 1000000) : AC Tryd.prog 74 [hgV S, dI m] [] [] (.list (sps (lkA S m))) := by
  refine kpparts_hangar_lacks.ac (n0 := 0) (by simp) ⟨.at_ _, .val _, trivial⟩ trivial rfl ?_
  unfold cpparts_hangar_lacks lkA
  have ca := fun k j => hat_ac S k m j hpl
  unfold hgV at *
  have hlk := lkk_len S m hp4
  (repeat' (first | (with_reducible first | refine thenQ_n ?_ | refine blockQ_n ?_ | refine thenQ_e ?_ | refine blockQ_t ?_ | refine blockQ_f (by decide) ?_) | apply aw_seq | apply aw_skip | apply aw_exit | apply aw_ret | apply aw_block | apply aw_condT rfl | apply aw_condF rfl | ((first | refine aw_hide fun K hK => aw_region ?_ | refine ago_if (by omega) ?_ | skip); simp (disch := first | exact okY | omega) only [ZU, Nat.reduceMul, dI, AOpRun, aexec, Nat.reduceBEq, Nat.reduceAdd, ↓eget_h, List.drop, run1, kds_len]) | subst hK))
  refine aw_loop (fun k : Nat => ⟨[(0, hgV S), (1, dI m), (4, .vec 40 (lkk S m k).length 2), (12, .list (kds S.rg.ks)), (13, dI S.rg.ks.length), (14, dI k)], [(40, scells (lkk S m k))], 400⟩) (fun k => k ≤ S.rg.ks.length) (fun k => S.rg.ks.length - k) ⟨0, by omega, ?_⟩ ?_
  · unfold dI hgV
    refine wk_q [] [(40, 300)] ?_ ?_ <;> repeat' (first | exact trivial | exact vr_val _ | exact vr_list _ | exact vr_at _ | exact vr_nilv _ _ _ rfl | refine And.intro ⟨_, rfl, .inr ⟨rfl, rfl, of_decide_eq_true (by kernel_rfl)⟩⟩ ?_ | apply And.intro)
  intro k hk1
  by_cases hk2 : k < S.rg.ks.length
  case neg =>
    obtain rfl : k = S.rg.ks.length := by omega
    generalize lkk S m S.rg.ks.length = L at *
    (repeat' (first | (with_reducible first | refine thenQ_n ?_ | refine blockQ_n ?_ | refine thenQ_e ?_ | refine blockQ_t ?_ | refine blockQ_f (by decide) ?_) | apply aw_seq | apply aw_skip | apply aw_exit | apply aw_ret | apply aw_block | apply aw_condT rfl | apply aw_condF rfl | ((first | refine aw_hide fun K hK => aw_region ?_ | refine ago_if (by omega) ?_ | skip); simp (disch := first | exact okY | omega) only [ZU, Nat.reduceMul, Nat.reduceAdd, dI, AOpRun, aexec, Nat.reduceBEq, ↓eget_h, isSh, ↓reduceIte, abin, Int.lt_irrefl, decide_false]) | subst hK))
    (refine end_q [40] [] ?_ ?_ <;> repeat' (first | exact trivial | refine vr_fl _ _ _ _ _ (by decide) rfl ?_ ?_ ?_ ?_))
    all_goals first | exact sps_two _ | exact sps_len _ | exact scells_in _ | (rw [sc_tk2]; exact sps_flat _) | exact sps_flat _
  obtain ⟨x, hx⟩ := nthI hk2
  have g1 := kds_nth S.rg.ks k x hx
  have ga := kds_all S.rg.ks
  have hkp : kpl S k = x.p := by unfold kpl; rw [hx]; rfl
  have h4 := hp4 k
  have hl0 := hlk k
  have hnext : lkk S m (k + 1) = lkk S m k ++ lkp S m k x.p.toNat := by rw [← hkp]; rfl
  unfold kdC at g1
  generalize lkk S m k = L at *
  unfold hgV
  (have hg : (987654321 : Nat) - 987654321 = 0 := rfl; have hr := hg; repeat' (first | (with_reducible first | refine thenQ_n ?_ | refine blockQ_n ?_ | refine thenQ_e ?_ | refine blockQ_t ?_ | refine blockQ_f (by decide) ?_) | apply aw_seq | apply aw_skip | apply aw_exit | apply aw_ret | apply aw_block | apply aw_condT rfl | apply aw_condF rfl | (refine aw_cond rfl (fun hg => ?_) (fun hg => ?_) <;> (try (have hq := hg; simp only [Bool.not_eq_true', Bool.not_eq_false', Bool.and_eq_true, Bool.and_eq_false_iff, Bool.or_eq_true, Bool.or_eq_false_iff, decide_eq_true_eq, decide_eq_false_iff_not, bne_iff_ne, beq_iff_eq, beq_eq_false_iff_ne, bne_eq_false_iff_eq, ne_eq, Int.not_lt, Int.not_le, Decidable.not_not] at hq)) <;> (try (have hr := hg; simp only [decide_eq_true_eq, decide_eq_false_iff_not] at hr)) <;> (try (exfalso; omega))) | ((first | refine aw_hide fun K hK => aw_region ?_ | refine ago_if (by omega) ?_ | skip); simp (disch := first | exact okY | omega) only [ZU, Nat.reduceMul, Nat.reduceAdd, dI, AOpRun, aexec, Nat.reduceBEq, ↓eget_h, isSh, ↓reduceIte, abin, hr, ga, opt1, g1, Nat.reduceLeDiff, List.take, ↓hget_h, D.isBot, D.cells, List.all, D.leaf, splice, List.drop, run1]) | subst hK))
  refine aw_loop (fun j : Nat => ⟨[(0, hgV S), (1, dI m), (4, .vec 40 (L ++ lkp S m k j).length 2), (5, dI k), (12, .list (kds S.rg.ks)), (13, dI S.rg.ks.length), (14, dI k), (20, dI x.p), (21, dI j)], [(40, scells (L ++ lkp S m k j))], 500⟩) (fun j => j ≤ x.p.toNat) (fun j => x.p.toNat - j) ⟨0, by omega, ?_⟩ ?_
  · rw [show lkp S m k 0 = [] from rfl, List.append_nil]
    unfold dI hgV
    refine wk_q [] [(40, 40)] ?_ ?_ <;> repeat' (first | exact trivial | exact vr_val _ | exact vr_list _ | exact vr_at _ | exact vr_vec _ _ _ _ rfl | refine And.intro ⟨_, rfl, .inl ⟨_, rfl, by decide, ?_⟩⟩ ?_ | apply And.intro | exact vrl_flat _ (by first | exact icells_in _ | exact rcells_in _ | exact scells_in _ | exact bcells_in _ | assumption) | fail)
    all_goals exact vrl_flat _ (scells_in _)
  intro j hj
  have hl1 := lkp_len S m k j
  by_cases hj2 : j < x.p.toNat
  case neg =>
    obtain rfl : j = x.p.toNat := by omega
    have q : decide (((x.p.toNat : Nat) : Int) < x.p) = false := decide_eq_false (by omega)
    unfold hgV
    rw [← hnext]
    generalize hT : lkk S m (k + 1) = T at *
    (repeat' (first | (with_reducible first | refine thenQ_n ?_ | refine blockQ_n ?_ | refine thenQ_e ?_ | refine blockQ_t ?_ | refine blockQ_f (by decide) ?_) | apply aw_seq | apply aw_skip | apply aw_exit | apply aw_ret | apply aw_block | apply aw_condT rfl | apply aw_condF rfl | ((first | refine aw_hide fun K hK => aw_region ?_ | refine ago_if (by omega) ?_ | skip); simp (disch := first | exact okY | omega) only [ZU, Nat.reduceMul, Nat.reduceAdd, dI, AOpRun, aexec, Nat.reduceBEq, ↓eget_h, isSh, ↓reduceIte, abin, q, fits]) | subst hK))
    refine ⟨k + 1, by omega, by omega, ?_⟩
    rw [hT]
    refine wk_q [] [(40, 40)] ?_ ?_ <;> repeat' (first | exact trivial | exact vr_val _ | exact vr_list _ | exact vr_at _ | exact vr_vec _ _ _ _ rfl | refine And.intro ⟨_, rfl, .inl ⟨_, rfl, by decide, ?_⟩⟩ ?_ | apply And.intro | exact vrl_flat _ (by first | exact icells_in _ | exact rcells_in _ | exact scells_in _ | exact bcells_in _ | assumption) | fail)
    all_goals exact vrl_flat _ (scells_in _)
  have q : decide (((j : Nat) : Int) < x.p) = true := decide_eq_true (by omega)
  have cj := ca k j
  have e : lkp S m k (j + 1) = if atI S k m j < 0 then lkp S m k j ++ [((k : Int), (j : Int))] else lkp S m k j := rfl
  have hLl : (L ++ lkp S m k j).length ≤ 100 := by rw [List.length_append]; omega
  unfold hgV
  by_cases hA : atI S k m j < 0
  case neg =>
    rw [if_neg hA] at e
    have q2 : decide (atI S k m j < 0) = false := decide_eq_false hA
    generalize atI S k m j = A at *
    rw [← e]
    generalize hT : L ++ lkp S m k (j + 1) = T at *
    (repeat' (first | (with_reducible first | refine thenQ_n ?_ | refine blockQ_n ?_ | refine thenQ_e ?_ | refine blockQ_t ?_ | refine blockQ_f (by decide) ?_) | apply aw_seq | apply aw_skip | apply aw_exit | apply aw_ret | apply aw_block | apply aw_condT rfl | apply aw_condF rfl | ((first | refine aw_hide fun K hK => aw_region ?_ | refine acall0 (cj) ?_ | refine ago_if (by omega) ?_ | skip); simp (disch := first | exact okY | omega) only [ZU, Nat.reduceMul, Nat.reduceAdd, dI, AOpRun, aexec, Nat.reduceBEq, ↓eget_h, isSh, ↓reduceIte, abin, q, fillD, D.isBot, D.cells, ne_eq, not_true_eq_false, Nat.reduceGT, or_self, splice, List.take, List.drop, q2, fits]) | subst hK))
    refine ⟨j + 1, by omega, by omega, ?_⟩
    rw [hT]
    refine wk_q [] [(40, 40)] ?_ ?_ <;> repeat' (first | exact trivial | exact vr_val _ | exact vr_list _ | exact vr_at _ | exact vr_vec _ _ _ _ rfl | refine And.intro ⟨_, rfl, .inl ⟨_, rfl, by decide, ?_⟩⟩ ?_ | apply And.intro | exact vrl_flat _ (by first | exact icells_in _ | exact rcells_in _ | exact scells_in _ | exact bcells_in _ | assumption) | fail)
    all_goals exact vrl_flat _ (scells_in _)
  rw [if_pos hA] at e
  have q2 : decide (atI S k m j < 0) = true := decide_eq_true hA
  generalize atI S k m j = A at *
  have e2 : L ++ lkp S m k (j + 1) = (L ++ lkp S m k j) ++ [((k : Int), (j : Int))] := by rw [e, List.append_assoc]
  generalize L ++ lkp S m k j = M at *
  generalize hT : L ++ lkp S m k (j + 1) = T at *
  have tk := sc_tk2 M
  have hle : M.length * 2 ≤ (scells M).length := by rw [scells_len]; omega
  have sn := sc_snc2 M k j
  rw [← e2] at sn
  have tl : T.length = M.length + 1 := by rw [e2]; simp
  (repeat' (first | (with_reducible first | refine thenQ_n ?_ | refine blockQ_n ?_ | refine thenQ_e ?_ | refine blockQ_t ?_ | refine blockQ_f (by decide) ?_) | apply aw_seq | apply aw_skip | apply aw_exit | apply aw_ret | apply aw_block | apply aw_condT rfl | apply aw_condF rfl | ((first | refine aw_hide fun K hK => aw_region ?_ | refine acall0 (cj) ?_ | refine ago_if (by omega) ?_ | skip); simp (disch := first | exact okY | omega) only [ZU, Nat.reduceMul, Nat.reduceAdd, dI, AOpRun, aexec, Nat.reduceBEq, ↓eget_h, isSh, ↓reduceIte, abin, q, fillD, D.isBot, D.cells, ne_eq, not_true_eq_false, Nat.reduceGT, or_self, splice, List.take, List.drop, q2, base, hle, tk, elems, ↓hget_h, Nat.reduceLeDiff, List.all, D.leaf, and_true, ups, sn, hdel_c, hdel_n, fits]) | subst hK))
  refine ⟨j + 1, by omega, by omega, ?_⟩
  rw [hT, tl]
  refine wk_q [] [(40, 620)] ?_ ?_ <;> repeat' (first | exact trivial | exact vr_val _ | exact vr_list _ | exact vr_at _ | exact vr_vec _ _ _ _ rfl | refine And.intro ⟨_, rfl, .inl ⟨_, rfl, by decide, ?_⟩⟩ ?_ | apply And.intro | exact vrl_flat _ (by first | exact icells_in _ | exact rcells_in _ | exact scells_in _ | exact bcells_in _ | assumption) | fail)
  all_goals exact vrl_flat _ (scells_in _)
end Go.Proofs.YtgibbaadjbohdaaDoor
/- parts: what is left of a part, and how long a machine may fly (views last). No conditions. -/
namespace Go.Proofs.YtgibbaadjbohdaaDoor
open Go Go.RowKit Lift

def kdOf (S : Hg) (p : Prt) : Kd := S.rg.ks[p.kd.toNat]?.getD ⟨0, 0, 0⟩
def ordOf (S : Hg) (i : Nat) : Int × Int := S.rg.os[i]?.getD (0, 0)
def lfB (S : Hg) (p : Prt) (i : Nat) : Bool := (S.iss[i]?.getD false) && (((ordOf S i).1 == p.kd) && !(p.chk[i]?.getD false))
def lf (S : Hg) (p : Prt) : Nat → Int
  | 0 => w64 ((kdOf S p).h - p.h)
  | i + 1 => if lfB S p i = true then (if w64 ((ordOf S i).2 - p.since[i]?.getD 0) < lf S p i then w64 ((ordOf S i).2 - p.since[i]?.getD 0) else lf S p i) else lf S p i
def lfH (S : Hg) (p : Prt) : Int := lf S p S.rg.os.length
def lfC (S : Hg) (p : Prt) : Int := w64 ((kdOf S p).c - p.c)
structure PtOk (S : Hg) (p : Prt) : Prop where
  k0 : 0 ≤ p.kd
  k1 : p.kd.toNat < S.rg.ks.length
  sl : p.since.length = S.rg.os.length
  cl : p.chk.length = S.rg.os.length
set_option maxRecDepth 100000 in
set_option maxHeartbeats 8000000 in
theorem left_ac (S : Hg) (p : Prt) (hi : S.iss.length = S.rg.os.length) (ho : S.rg.os.length ≤ 1000) (hp : PtOk S p) : AC Tryd.prog 18 [hgV S, ptV p] [] [] (.tup [dI (lfH S p), dI (lfC S p)]) := by
  refine kpparts_hangar_left.ac (n0 := 0) (by simp) ⟨.at_ _, .at_ _, trivial⟩ trivial rfl ?_
  unfold cpparts_hangar_left lfH
  have hk0 := hp.k0
  obtain ⟨x, hx⟩ := nthI hp.k1
  have g1 := kds_nth S.rg.ks _ x hx
  have ga := kds_all S.rg.ks
  have e0 : lf S p 0 = IntKind.i64.wrap (x.h - p.h) := by show w64 ((kdOf S p).h - p.h) = _; unfold kdOf w64; rw [hx]; rfl
  have ec : lfC S p = IntKind.i64.wrap (x.c - p.c) := by unfold lfC kdOf w64; rw [hx]; rfl
  rw [ec]
  unfold kdC at g1
  unfold hgV ptV
  (repeat' (first | (with_reducible first | refine thenQ_n ?_ | refine blockQ_n ?_ | refine thenQ_e ?_ | refine blockQ_t ?_ | refine blockQ_f (by decide) ?_) | apply aw_seq | apply aw_skip | apply aw_exit | apply aw_ret | apply aw_block | apply aw_condT rfl | apply aw_condF rfl | ((first | refine aw_hide fun K hK => aw_region ?_ | refine ago_if (by omega) ?_ | skip); simp (disch := first | exact okY | omega) only [ZU, Nat.reduceAdd, Nat.reduceMul, dI, dB, AOpRun, aexec, Nat.reduceBEq, ↓eget_h, List.drop, run1, hk0, ga, ↓reduceIte, opt1, g1, Nat.reduceLeDiff, List.take, D.isBot, D.cells, List.all, D.leaf, splice, isSh, abin, ods_len]) | subst hK))
  rw [← e0]
  generalize IntKind.i64.wrap (x.c - p.c) = C at *
  refine aw_loop (fun i : Nat => ⟨[(0, hgV S), (1, ptV p), (4, dI (lf S p i)), (5, dI C), (41, .list (ods S.rg.os)), (42, dI S.rg.os.length), (43, dI i)], [], 600⟩) (fun i => i ≤ S.rg.os.length) (fun i => S.rg.os.length - i) ⟨0, by omega, ?_⟩ ?_
  · unfold dI hgV ptV
    refine wk_q [] [] ?_ ?_ <;> repeat' (first | exact trivial | exact vr_val _ | exact vr_list _ | exact vr_at _ | apply And.intro)
  intro i hi1
  unfold hgV ptV
  by_cases hi2 : i < S.rg.os.length
  case neg =>
    obtain rfl : i = S.rg.os.length := by omega
    generalize lf S p S.rg.os.length = A at *
    (repeat' (first | (with_reducible first | refine thenQ_n ?_ | refine blockQ_n ?_ | refine thenQ_e ?_ | refine blockQ_t ?_ | refine blockQ_f (by decide) ?_) | apply aw_seq | apply aw_skip | apply aw_exit | apply aw_ret | apply aw_block | apply aw_condT rfl | apply aw_condF rfl | ((first | refine aw_hide fun K hK => aw_region ?_ | refine ago_if (by omega) ?_ | skip); simp (disch := first | exact okY | omega) only [ZU, Nat.reduceMul, Nat.reduceAdd, dI, dB, AOpRun, aexec, Nat.reduceBEq, ↓eget_h, isSh, ↓reduceIte, abin, Int.lt_irrefl, decide_false]) | subst hK))
    (refine end_q [] [] ?_ ?_ <;> repeat' (first | exact trivial | exact vr_val _ | apply vr_tup | apply And.intro))
  obtain ⟨o, hx2⟩ := nthI hi2
  have g2 := ods_nth S.rg.os i o hx2
  have gb := ods_all S.rg.os
  have g3 := bools_gd S.iss i (by omega)
  have g4 := bools_gd p.chk i (by have := hp.cl; omega)
  have g5 := ints_gd p.since i (by have := hp.sl; omega)
  have b3 := bools_all S.iss
  have b4 := bools_all p.chk
  have b5 := ints_all p.since
  have il : ((i : Nat) : Int) < (S.rg.os.length : Int) := by omega
  have eo : ordOf S i = o := by unfold ordOf; rw [hx2]; rfl
  have e : lf S p (i + 1) = if lfB S p i = true then (if w64 ((ordOf S i).2 - p.since[i]?.getD 0) < lf S p i then w64 ((ordOf S i).2 - p.since[i]?.getD 0) else lf S p i) else lf S p i := rfl
  unfold lfB w64 at e
  rw [eo] at e
  unfold odC dI at g2
  unfold dB at g3 g4
  have fin : i + 1 ≤ S.rg.os.length := by omega
  have fin2 : S.rg.os.length - (i + 1) < S.rg.os.length - i := by omega
  generalize S.iss[i]?.getD false = a1 at *
  generalize p.chk[i]?.getD false = a3 at *
  generalize p.since[i]?.getD 0 = n5 at *
  generalize lf S p i = A at *
  generalize hTT : lf S p (i + 1) = T at *
  cases a1 <;> cases a3 <;> cases q2 : (o.1 == p.kd)
  all_goals
    rw [q2] at e
    simp only [Bool.false_and, Bool.true_and, Bool.and_true, Bool.and_false, Bool.not_true, Bool.not_false, Bool.false_eq_true, if_true, if_false] at e
    (repeat' (first | (with_reducible first | refine thenQ_n ?_ | refine blockQ_n ?_ | refine thenQ_e ?_ | refine blockQ_t ?_ | refine blockQ_f (by decide) ?_) | apply aw_seq | apply aw_skip | apply aw_exit | apply aw_ret | apply aw_block | apply aw_condT rfl | apply aw_condF rfl | ((first | refine aw_hide fun K hK => aw_region ?_ | refine ago_if (by omega) ?_ | skip); simp (disch := first | exact okY | omega) only [ZU, Nat.reduceMul, Nat.reduceAdd, dI, dB, ← e, AOpRun, aexec, Nat.reduceBEq, ↓eget_h, isSh, ↓reduceIte, abin, il, gb, opt1, g2, Nat.reduceLeDiff, List.take, D.isBot, D.cells, List.all, D.leaf, splice, List.drop, run1, b3, g3, ARun_some, AG_ft, fits, AG_tt, q2, b4, g4, b5, g5, foldI, mn2]) | subst hK))
    refine ⟨i + 1, fin, fin2, ?_⟩
    rw [hTT]
    refine wk_q [] [] ?_ ?_ <;> repeat' (first | exact trivial | exact vr_val _ | exact vr_list _ | exact vr_at _ | apply And.intro)
end Go.Proofs.YtgibbaadjbohdaaDoor
