/- Texts of the law TopDescends, part 0. No conditions. -/
import Derived.Still
import Derived.Below
import Derived.IntWalk
import Derived.OrdersIn
import Derived.DeepKeys
import Derived.Laws.Cover3
import Derived.Laws.Cells
set_option linter.unusedSimpArgs false
set_option linter.unusedVariables false
set_option maxRecDepth 100000
set_option maxHeartbeats 16000000
/- Abstract values, regions in any order, and the first operations on them. No conditions. -/
namespace Go.Proofs.YtbncpngjclabhaaGreat.Lift
open Go Go.RowKit

inductive D where
  | bot
  | val (v : Value)
  | agg (l : List D)
  | tup (l : List D)
  | list (l : List (List D))
  | at_ (l : List D)
  | own (g off len sz : Nat)
  | vec (g len sz : Nat)
  | cap0
  | ptr (g off : Nat)
  | fn (f : FuncId) (first caps : List D)
  | yld (g : Nat) (r : Loop) (k : List D)
  | yref (g : Nat)
  | mp (g : Nat)
instance : Inhabited D := ⟨.bot⟩

abbrev Bet := Nat → Option Nat
abbrev Blk := Nat → Prop
abbrev Heap := Nat → Option (List D)

def kind? (w : World) (r : Nat) : Option (Option (TypeId × Nat)) := match w.heap[r]? with
  | some (.cells c e _) => some (some (e,c.size))
  | some (.map _ _) => some none
  | _ => none
theorem kind_shape (w : World) (r : Nat) : w.shape? r = (kind? w r).join := by
  unfold kind? World.shape?
  cases w.heap[r]? with
  | none => rfl
  | some o => cases o <;> rfl
theorem kind_some {w : World} {r : Nat} {e : TypeId} {n : Nat} : kind? w r = some (some (e,n)) ↔ w.shape? r = some (e,n) := by
  unfold kind? World.shape?
  cases w.heap[r]? with
  | none => simp
  | some o => cases o <;> simp
def mpV (l : List (Value × Value)) : Value := .agg (l.map fun x => .tuple #[x.1,x.2]).toArray
def entV : Value → Option (Value × Value)
  | .tuple cs => match cs.toList with
    | [k,v] => some (k,v)
    | _ => none
  | _ => none
def entsV : List Value → Option (List (Value × Value))
  | [] => some []
  | x :: r => match entV x,entsV r with
    | some a,some b => some (a :: b)
    | _,_ => none
def unV : Value → Option (List (Value × Value))
  | .agg a => entsV a.toList
  | _ => none
theorem unV_mp (l : List (Value × Value)) : unV (mpV l) = some l := by
  simp only [unV,mpV]
  induction l with
  | nil => rfl
  | cons x l ih => simp only [List.map_cons,entsV,entV,ih]

structure Fr (X : Blk) (w w' : World) : Prop where
  os : w'.os = w.os
  tape : w'.tape = w.tape
  output : w'.output = w.output
  size : w.heap.size ≤ w'.heap.size
  same : ∀ b,b < w.heap.size → ¬ X b → w'.heap[b]? = w.heap[b]?
  knd : ∀ b,b < w.heap.size → kind? w' b = kind? w b

theorem Fr.shp {X : Blk} {w w' : World} (h : Fr X w w') (b : Nat) (hb : b < w.heap.size) : w'.shape? b = w.shape? b := by rw [kind_shape,kind_shape,h.knd b hb]
theorem Fr.refl (X : Blk) (w : World) : Fr X w w := ⟨rfl,rfl,rfl,Nat.le_refl _,fun _ _ _ => rfl,fun _ _ => rfl⟩
theorem Fr.drawn (X : Blk) (w : World) (n : Nat) : Fr X w { w with drawn := n } := ⟨rfl,rfl,rfl,Nat.le_refl _,fun _ _ _ => rfl,fun _ _ => rfl⟩
theorem Fr.mono {X Y : Blk} {w w' : World} (h : Fr X w w') (hs : ∀ b,b < w.heap.size → X b → Y b) : Fr Y w w' :=
  ⟨h.os,h.tape,h.output,h.size,fun b hb hn => h.same b hb fun hx => hn (hs b hb hx),h.knd⟩
theorem Fr.trans {X Y : Blk} {a b c : World} (h : Fr X a b) (k : Fr Y b c) (hs : ∀ i,i < a.heap.size → Y i → X i) : Fr X a c :=
  ⟨k.os.trans h.os, k.tape.trans h.tape, k.output.trans h.output, Nat.le_trans h.size k.size,
   fun i hi hn => (k.same i (Nat.lt_of_lt_of_le hi h.size) fun hy => hn (hs i hi hy)).trans (h.same i hi hn),
   fun i hi => (k.knd i (Nat.lt_of_lt_of_le hi h.size)).trans (h.knd i hi)⟩
theorem Fr.push (X : Blk) (w : World) (o : Obj) : Fr X w { w with heap := w.heap.push o } where
  os := rfl
  tape := rfl
  output := rfl
  size := by simp
  same := fun b hb _ => by simp [Array.getElem?_push,Nat.ne_of_lt hb]
  knd := fun b hb => by simp [kind?,Array.getElem?_push,Nat.ne_of_lt hb]
theorem Fr.of_below {w w' : World} (h : Below w.heap.size w w') (X : Blk) : Fr X w w' :=
  ⟨h.os,h.tape,h.output,h.size,fun b hb _ => h.block b hb,fun b hb => by simp only [kind?,h.block b hb]⟩
theorem Fr.below {w w' : World} {X : Blk} (h : Fr X w w') (hx : ∀ b,b < w.heap.size → ¬ X b) : Below w.heap.size w w' :=
  ⟨h.os,h.tape,h.output,h.size,fun b hb => h.same b hb (hx b hb)⟩

def β0 : Bet := fun _ => none
def noY : Nat → D → Bool
  | _,.yld .. => false
  | 0,.agg _ => false
  | 0,.tup _ => false
  | 0,.fn .. => false
  | n + 1,.agg l => l.all (noY n)
  | n + 1,.tup l => l.all (noY n)
  | n + 1,.fn _ k l => k.all (noY n) && l.all (noY n)
  | _,_ => true
inductive Rep (w : World) : Bet → Blk → Value → D → Prop
  | bot {β Z} (v : Value) : Rep w β Z v .bot
  | val {β Z} (v : Value) : Rep w β Z v (.val v)
  | agg {β Z} (cs : Array Value) (l : List D) : cs.size = l.length → (∀ i (h : i < l.length),Rep w β Z (cs.getD i undef) l[i]) → Rep w β Z (.agg cs) (.agg l)
  | tup {β Z} (cs : Array Value) (l : List D) : cs.size = l.length → (∀ i (h : i < l.length),Rep w β Z (cs.getD i undef) l[i]) → Rep w β Z (.tuple cs) (.tup l)
  | list0 {β Z} (A : Option Addr) (c : Nat) : Rep w β Z (.slice A 0 c) (.list [])
  | list {β Z} (b off c sz : Nat) (l : List (List D)) (vs : Nat → Nat → Value) : ¬ Z b → b < w.heap.size → l.length ≤ c → (∀ e ∈ l,e.length = sz) →
      (∀ k j (hk : k < l.length) (_ : j < l[k].length),w.cell? ⟨b,off + k * sz + j,none⟩ = some (vs k j)) →
      (∀ k j (hk : k < l.length) (hj : j < l[k].length),Rep w β0 Z (vs k j) l[k][j]) → Rep w β Z (.slice (some ⟨b,off,none⟩) l.length c) (.list l)
  | at_ {β Z} (b off : Nat) (l : List D) (vs : Nat → Value) : ¬ Z b → b < w.heap.size → (∀ j (_ : j < l.length),w.cell? ⟨b,off + j,none⟩ = some (vs j)) →
      (∀ j (hj : j < l.length),Rep w β0 Z (vs j) l[j]) → Rep w β Z (.pointer (some ⟨b,off,none⟩)) (.at_ l)
  | own {β Z} (g off len sz B cap e n : Nat) : β g = some B → B < w.heap.size → len ≤ cap → w.shape? B = some (e,n) → off + cap * sz ≤ n →
      Rep w β Z (.slice (some ⟨B,off,none⟩) len cap) (.own g off len sz)
  | cap0 {β Z} (A : Option Addr) : Rep w β Z (.slice A 0 0) .cap0
  | ptr {β Z} (g off B e n : Nat) : β g = some B → w.shape? B = some (e,n) → Rep w β Z (.pointer (some ⟨B,off,none⟩)) (.ptr g off)
  | vec0 {β Z} (A : Option Addr) (g sz : Nat) : Rep w β Z (.slice A 0 0) (.vec g 0 sz)
  | vec {β Z} (g len sz B cap e n : Nat) : β g = some B → B < w.heap.size → len ≤ cap → w.shape? B = some (e,n) → cap * sz ≤ n →
      Rep w β Z (.slice (some ⟨B,0,none⟩) len cap) (.vec g len sz)
  | fn {β Z} (f : FuncId) (us vs : Array Value) (k l : List D) : us.size = k.length → (∀ i (h : i < k.length),Rep w β Z (us.getD i undef) k[i]) → vs.size = l.length → (∀ i (h : i < l.length),Rep w β Z (vs.getD i undef) l[i]) →
      Rep w β Z (.func (.func f) us vs) (.fn f k l)
  | yld {β Z} (g l : Nat) (r : Loop) (k : List D) : β g = some l → l < w.heap.size → ¬ Z l → w.heap[l]? = some (.loop r) → (∀ i (h : i < k.length),Rep w β Z (r.tmps.getD i undef) k[i]) →
      (∀ i (h : i < k.length),noY 9 k[i] = true ∨ r.tmps.getD i undef ≠ .func (.yield l) #[] #[]) → Rep w β Z (.func (.yield l) #[] #[]) (.yld g r k)
  | yref {β Z} (g l : Nat) : β g = some l → Rep w β Z (.func (.yield l) #[] #[]) (.yref g)
  | mp {β Z} (g B : Nat) : β g = some B → kind? w B = some none → Rep w β Z (.map (some B)) (.mp g)

theorem kind_lt {w : World} {B : Nat} {k : Option (TypeId × Nat)} (h : kind? w B = some k) : B < w.heap.size := by
  refine Nat.lt_of_not_le fun hn => ?_
  simp [kind?,Array.getElem?_eq_none hn] at h
theorem shape_lt {w : World} {B : Nat} {k : TypeId × Nat} (h : w.shape? B = some k) : B < w.heap.size := kind_lt (kind_some.2 h)
theorem Rep.val_eq {w : World} {β : Bet} {Z : Blk} {v u : Value} (h : Rep w β Z v (.val u)) : u = v := by
  generalize hd : D.val u = d at h
  cases h <;> simp_all
theorem Fr.cell {X : Blk} {w w' : World} (h : Fr X w w') {b o : Nat} (hb : b < w.heap.size) (hx : ¬ X b) : w'.cell? ⟨b,o,none⟩ = w.cell? ⟨b,o,none⟩ := by
  simp only [World.cell?,h.same b hb hx]

def Ext (β β' : Bet) : Prop := ∀ g B, β g = some B → β' g = some B
theorem Ext.refl (β : Bet) : Ext β β := fun _ _ h => h
theorem Ext.trans {a b c : Bet} (h : Ext a b) (k : Ext b c) : Ext a c := fun g B hg => k g B (h g B hg)

theorem Rep.mono {w w' : World} {β β' : Bet} {Z Z' X : Blk} {v : Value} {d : D} (h : Rep w β Z v d) (hf : Fr X w w') (hX : ∀ b,b < w.heap.size → X b → Z b)
    (hβ : Ext β β') (hZ : ∀ b,b < w.heap.size → Z' b → Z b) : Rep w' β' Z' v d := by
  induction h generalizing β' with
  | bot v => exact .bot v
  | val v => exact .val v
  | agg cs l hl _ ih => exact .agg cs l hl fun i h => ih i h hX hβ hZ
  | tup cs l hl _ ih => exact .tup cs l hl fun i h => ih i h hX hβ hZ
  | list0 A c => exact .list0 A c
  | list b off c sz l vs hz hb hc hs hcell _ ih =>
    exact .list b off c sz l vs (fun h => hz (hZ b hb h)) (Nat.lt_of_lt_of_le hb hf.size) hc hs (fun k j hk hj => (hf.cell hb fun hx => hz (hX b hb hx)).trans (hcell k j hk hj)) fun k j hk hj => ih k j hk hj hX (Ext.refl _) hZ
  | at_ b off l vs hz hb hcell _ ih =>
    exact .at_ b off l vs (fun h => hz (hZ b hb h)) (Nat.lt_of_lt_of_le hb hf.size) (fun j hj => (hf.cell hb fun hx => hz (hX b hb hx)).trans (hcell j hj)) fun j hj => ih j hj hX (Ext.refl _) hZ
  | own g off len sz B cap e n hg hB hlen hs hn => exact .own g off len sz B cap e n (hβ _ _ hg) (Nat.lt_of_lt_of_le hB hf.size) hlen ((hf.shp B hB).trans hs) hn
  | cap0 A => exact .cap0 A
  | ptr g off B e n hg hs => exact .ptr g off B e n (hβ _ _ hg) ((hf.shp B (shape_lt hs)).trans hs)
  | vec0 A g sz => exact .vec0 A g sz
  | vec g len sz B cap e n hg hB hlen hs hn => exact .vec g len sz B cap e n (hβ _ _ hg) (Nat.lt_of_lt_of_le hB hf.size) hlen ((hf.shp B hB).trans hs) hn
  | fn f us vs k l hk _ hl _ ihk ihl => exact .fn f us vs k l hk (fun i h => ihk i h hX hβ hZ) hl fun i h => ihl i h hX hβ hZ
  | yld g l r k hg hl hz hb _ hs ih => exact .yld g l r k (hβ _ _ hg) (Nat.lt_of_lt_of_le hl hf.size) (fun h => hz (hZ l hl h)) ((hf.same l hl fun hx => hz (hX l hl hx)).trans hb) (fun i h => ih i h hX hβ hZ) hs
  | yref g l hg => exact .yref g l (hβ _ _ hg)
  | mp g B hg hs => exact .mp g B (hβ _ _ hg) ((hf.knd B (kind_lt hs)).trans hs)
theorem Rep.up {w : World} {β : Bet} {Z : Blk} {v : Value} {d : D} (h : Rep w β0 Z v d) : Rep w β Z v d :=
  h.mono (Fr.refl (fun _ => False) w) (fun _ _ h => h.elim) (fun _ _ h => by cases h) (fun _ _ h => h)

inductive In (S : Nat → Prop) : D → Prop
  | bot : In S .bot
  | val (v : Value) : In S (.val v)
  | agg (l : List D) : (∀ d ∈ l,In S d) → In S (.agg l)
  | tup (l : List D) : (∀ d ∈ l,In S d) → In S (.tup l)
  | list (l : List (List D)) : In S (.list l)
  | at_ (l : List D) : In S (.at_ l)
  | own (g off len sz : Nat) : S g → In S (.own g off len sz)
  | cap0 : In S .cap0
  | ptr (g off : Nat) : S g → In S (.ptr g off)
  | vec (g len sz : Nat) : S g → In S (.vec g len sz)
  | fn (f : FuncId) (k l : List D) : (∀ d ∈ k,In S d) → (∀ d ∈ l,In S d) → In S (.fn f k l)
  | yld (g : Nat) (r : Loop) (k : List D) : S g → (∀ d ∈ k,In S d) → In S (.yld g r k)
  | yref (g : Nat) : S g → In S (.yref g)
  | mp (g : Nat) : S g → In S (.mp g)

theorem Rep.rename {w : World} {β β' : Bet} {Z : Blk} {S : Nat → Prop} {v : Value} {d : D} (h : Rep w β Z v d) (hS : In S d) (hβ : ∀ g,S g → β' g = β g) : Rep w β' Z v d := by
  induction h with
  | bot v => exact .bot v
  | val v => exact .val v
  | agg cs l hl _ ih => cases hS with | agg _ h => exact .agg cs l hl fun i hi => ih i hi (h _ (List.getElem_mem _)) hβ
  | tup cs l hl _ ih => cases hS with | tup _ h => exact .tup cs l hl fun i hi => ih i hi (h _ (List.getElem_mem _)) hβ
  | list0 A c => exact .list0 A c
  | list b off c sz l vs hz hb hc hs hcell hr _ => exact .list b off c sz l vs hz hb hc hs hcell hr
  | at_ b off l vs hz hb hcell hr _ => exact .at_ b off l vs hz hb hcell hr
  | own g off len sz B cap e n hg hB hlen hs hn => cases hS with | own _ _ _ _ h => exact .own g off len sz B cap e n ((hβ g h).trans hg) hB hlen hs hn
  | cap0 A => exact .cap0 A
  | ptr g off B e n hg hs => cases hS with | ptr _ _ h => exact .ptr g off B e n ((hβ g h).trans hg) hs
  | vec0 A g sz => exact .vec0 A g sz
  | vec g len sz B cap e n hg hB hlen hs hn => cases hS with | vec _ _ _ h => exact .vec g len sz B cap e n ((hβ g h).trans hg) hB hlen hs hn
  | fn f us vs k l hk _ hl _ ihk ihl => cases hS with | fn _ _ _ h1 h2 => exact .fn f us vs k l hk (fun i hi => ihk i hi (h1 _ (List.getElem_mem _)) hβ) hl fun i hi => ihl i hi (h2 _ (List.getElem_mem _)) hβ
  | yld g l r k hg hl hz hb _ hs ih => cases hS with | yld _ _ _ h1 h2 => exact .yld g l r k ((hβ g h1).trans hg) hl hz hb (fun i hi => ih i hi (h2 _ (List.getElem_mem _)) hβ) hs
  | yref g l hg => cases hS with | yref _ h => exact .yref g l ((hβ g h).trans hg)
  | mp g B hg hs => cases hS with | mp _ h => exact .mp g B ((hβ g h).trans hg) hs

inductive Flat : D → Prop
  | bot : Flat .bot
  | val (v : Value) : Flat (.val v)
  | agg (l : List D) : (∀ d ∈ l,Flat d) → Flat (.agg l)
  | tup (l : List D) : (∀ d ∈ l,Flat d) → Flat (.tup l)
theorem Rep.flat {w w' : World} {β β' : Bet} {Z Z' : Blk} {v : Value} {d : D} (h : Rep w β Z v d) (hF : Flat d) : Rep w' β' Z' v d := by
  induction h with
  | bot v => exact .bot v
  | val v => exact .val v
  | agg cs l hl _ ih => cases hF with | agg _ h => exact .agg cs l hl fun i hi => ih i hi (h _ (List.getElem_mem _))
  | tup cs l hl _ ih => cases hF with | tup _ h => exact .tup cs l hl fun i hi => ih i hi (h _ (List.getElem_mem _))
  | list0 A c => cases hF
  | list => cases hF
  | at_ => cases hF
  | own => cases hF
  | cap0 => cases hF
  | ptr => cases hF
  | vec0 => cases hF
  | vec => cases hF
  | fn => cases hF
  | yld => cases hF
  | yref => cases hF
  | mp => cases hF

def D.cells : D → List D
  | .agg l => l
  | .val (.agg cs) => cs.toList.map .val
  | d => [d]
def D.isBot : D → Bool
  | .bot => true
  | _ => false
def D.isAgg : D → Bool
  | .agg _ | .val (.agg _) => true
  | _ => false
def D.leaf : D → Bool
  | .bot | .agg _ | .tup _ | .val (.agg _) | .val (.tuple _) => false
  | _ => true

theorem Rep.cells {w : World} {β : Bet} {Z : Blk} {v : Value} {d : D} (h : Rep w β Z v d) (hb : d.isBot = false) :
    v.cells.size = d.cells.length ∧ ∀ i (hi : i < d.cells.length),Rep w β Z (v.cells.getD i undef) d.cells[i] := by
  cases h with
  | bot v => cases hb
  | val v =>
    cases v with
    | agg cs => exact ⟨by simp [Value.cells,D.cells],fun i hi => by
        have hi' : i < cs.size := by simpa [D.cells] using hi
        simp only [Value.cells,D.cells,List.getElem_map,Array.getElem_toList]
        rw [show cs.getD i undef = cs[i] by simp [hi']]
        exact .val _⟩
    | _ => exact ⟨rfl, fun i hi => by obtain rfl : i = 0 := by simpa [D.cells] using hi
                                      exact .val _⟩
  | agg cs l hl hr => exact ⟨hl,hr⟩
  | tup cs l hl hr => exact ⟨rfl, fun i hi => by obtain rfl : i = 0 := by simpa [D.cells] using hi
                                                 exact .tup cs l hl hr⟩
  | list0 A c => exact ⟨rfl, fun i hi => by obtain rfl : i = 0 := by simpa [D.cells] using hi
                                            exact .list0 A c⟩
  | list b off c sz l vs h1 h2 h3 h4 h5 h6 => exact ⟨rfl, fun i hi => by obtain rfl : i = 0 := by simpa [D.cells] using hi
                                                                         exact .list b off c sz l vs h1 h2 h3 h4 h5 h6⟩
  | at_ b off l vs h1 h2 h3 h4 => exact ⟨rfl, fun i hi => by obtain rfl : i = 0 := by simpa [D.cells] using hi
                                                             exact .at_ b off l vs h1 h2 h3 h4⟩
  | own g off len sz B cap e n h1 h2 h3 h4 h5 => exact ⟨rfl, fun i hi => by obtain rfl : i = 0 := by simpa [D.cells] using hi
                                                                            exact .own g off len sz B cap e n h1 h2 h3 h4 h5⟩
  | cap0 A => exact ⟨rfl, fun i hi => by obtain rfl : i = 0 := by simpa [D.cells] using hi
                                         exact .cap0 A⟩
  | ptr g off B e n h h' => exact ⟨rfl, fun i hi => by obtain rfl : i = 0 := by simpa [D.cells] using hi
                                                       exact .ptr g off B e n h h'⟩
  | vec0 A g sz => exact ⟨rfl, fun i hi => by obtain rfl : i = 0 := by simpa [D.cells] using hi
                                              exact .vec0 A g sz⟩
  | vec g len sz B cap e n h1 h2 h3 h4 h5 => exact ⟨rfl, fun i hi => by obtain rfl : i = 0 := by simpa [D.cells] using hi
                                                                        exact .vec g len sz B cap e n h1 h2 h3 h4 h5⟩
  | fn f us vs k l h1 h2 h3 h4 => exact ⟨rfl, fun i hi => by obtain rfl : i = 0 := by simpa [D.cells] using hi
                                                             exact .fn f us vs k l h1 h2 h3 h4⟩
  | yld g l r k h1 h2 h3 h4 h5 h6 => exact ⟨rfl, fun i hi => by obtain rfl : i = 0 := by simpa [D.cells] using hi
                                                                exact .yld g l r k h1 h2 h3 h4 h5 h6⟩
  | yref g l h => exact ⟨rfl, fun i hi => by obtain rfl : i = 0 := by simpa [D.cells] using hi
                                             exact .yref g l h⟩
  | mp g B h h' => exact ⟨rfl, fun i hi => by obtain rfl : i = 0 := by simpa [D.cells] using hi
                                              exact .mp g B h h'⟩
theorem Rep.leaf {w : World} {β : Bet} {Z : Blk} {v : Value} {d : D} (h : Rep w β Z v d) (hb : d.leaf = true) : (∀ cs,v ≠ .agg cs) ∧ (∀ cs,v ≠ .tuple cs) := by
  cases h with
  | val v => cases v <;> simp_all [D.leaf]
  | _ => simp_all [D.leaf]

theorem Rep.swap {w w2 : World} {l : Nat} {r1 : Loop} (h1 : w.heap[l]? = some (.loop r1)) (hsz : w2.heap.size = w.heap.size) (hne : ∀ b,b ≠ l → w2.heap[b]? = w.heap[b]?) {β : Bet} {Z : Blk} {v : Value} {d : D}
    (h : Rep w β Z v d) : (β = β0 ∨ ∃ n,noY n d = true) → Rep w2 β Z v d := by
  have hcell : ∀ b o u,w.cell? ⟨b,o,none⟩ = some u → w2.cell? ⟨b,o,none⟩ = some u := fun b o u hc => by
    have hb : b ≠ l := by rintro rfl; simp [World.cell?,h1] at hc
    rw [← hc]
    simp only [World.cell?,hne b hb]
  have hshp : ∀ b e n,w.shape? b = some (e,n) → w2.shape? b = some (e,n) := fun b e n hc => by
    have hb : b ≠ l := by rintro rfl; simp [World.shape?,h1] at hc
    rw [← hc]
    simp only [World.shape?,hne b hb]
  have hknd : ∀ b k,kind? w b = some k → kind? w2 b = some k := fun b k hc => by
    have hb : b ≠ l := by rintro rfl; simp [kind?,h1] at hc
    rw [← hc]
    simp only [kind?,hne b hb]
  induction h with
  | bot v => exact fun _ => .bot v
  | val v => exact fun _ => .val v
  | agg cs l hl _ ih =>
    intro hq
    refine .agg cs l hl fun i h => ih i h ?_
    rcases hq with hq | ⟨n,hn⟩
    · exact .inl hq
    · cases n with
      | zero => cases hn
      | succ n => exact .inr ⟨n,List.all_eq_true.1 hn _ (List.getElem_mem h)⟩
  | tup cs l hl _ ih =>
    intro hq
    refine .tup cs l hl fun i h => ih i h ?_
    rcases hq with hq | ⟨n,hn⟩
    · exact .inl hq
    · cases n with
      | zero => cases hn
      | succ n => exact .inr ⟨n,List.all_eq_true.1 hn _ (List.getElem_mem h)⟩
  | list0 A c => exact fun _ => .list0 A c
  | list b off c sz l vs hz hb hc hs hce _ ih => exact fun _ => .list b off c sz l vs hz (by omega) hc hs (fun k j hk hj => hcell _ _ _ (hce k j hk hj)) fun k j hk hj => ih k j hk hj (.inl rfl)
  | at_ b off l vs hz hb hce _ ih => exact fun _ => .at_ b off l vs hz (by omega) (fun j hj => hcell _ _ _ (hce j hj)) fun j hj => ih j hj (.inl rfl)
  | own g off len sz B cap e n hg hB hlen hs hn => exact fun _ => .own g off len sz B cap e n hg (by omega) hlen (hshp _ _ _ hs) hn
  | cap0 A => exact fun _ => .cap0 A
  | ptr g off B e n hg hs => exact fun _ => .ptr g off B e n hg (hshp _ _ _ hs)
  | vec0 A g sz => exact fun _ => .vec0 A g sz
  | vec g len sz B cap e n hg hB hlen hs hn => exact fun _ => .vec g len sz B cap e n hg (by omega) hlen (hshp _ _ _ hs) hn
  | fn f us vs k l hk _ hl _ ihk ihl =>
    intro hq
    have key : (‹Bet› = β0 ∨ ∃ n,k.all (noY n) = true ∧ l.all (noY n) = true) := by
      rcases hq with hq | ⟨n,hn⟩
      · exact .inl hq
      · cases n with
        | zero => cases hn
        | succ n => simp only [noY,Bool.and_eq_true] at hn; exact .inr ⟨n,hn⟩
    exact .fn f us vs k l hk (fun i h => ihk i h (key.imp id fun ⟨n,hn⟩ => ⟨n,List.all_eq_true.1 hn.1 _ (List.getElem_mem h)⟩)) hl fun i h => ihl i h (key.imp id fun ⟨n,hn⟩ => ⟨n,List.all_eq_true.1 hn.2 _ (List.getElem_mem h)⟩)
  | yld g l' r k hg hl hz hb _ hs ih =>
    rintro (hq | ⟨n,hn⟩)
    · subst hq; cases hg
    · cases n <;> cases hn
  | yref g l' hg => exact fun _ => .yref g l' hg
  | mp g B hg hs => exact fun _ => .mp g B hg (hknd _ _ hs)

def ObjBlk (w : World) (B : Nat) (cs : Array Value) (e : TypeId) : Prop := w.heap[B]? = some (.cells cs e (0,0)) ∨ ∃ en n,w.heap[B]? = some (.map en n) ∧ cs = #[mpV (en.toList.map fun x => (x.key,x.val))]
structure ObjRep (w : World) (β : Bet) (Z : Blk) (g : Nat) (c : List D) (B : Nat) (cs : Array Value) (e : TypeId) : Prop where
  at_ : β g = some B
  ours : Z B
  blk : ObjBlk w B cs e
  fits : c.length ≤ cs.size
  rep : ∀ i (h : i < c.length),Rep w β Z (cs.getD i undef) c[i]
def Holds (w : World) (β : Bet) (Z : Blk) (g : Nat) (c : List D) : Prop := (c = [] ∧ β g = none) ∨ ∃ B cs e,ObjRep w β Z g c B cs e
theorem ObjRep.lt {w : World} {β : Bet} {Z : Blk} {g : Nat} {c : List D} {B : Nat} {cs : Array Value} {e : TypeId} (h : ObjRep w β Z g c B cs e) : B < w.heap.size :=
  by rcases h.blk with h | ⟨_,_,h,_⟩ <;> exact (Array.getElem?_eq_some_iff.1 h).1
theorem ObjBlk.trans {w w' : World} {B : Nat} {cs : Array Value} {e : TypeId} (h : ObjBlk w B cs e) (hb : w'.heap[B]? = w.heap[B]?) : ObjBlk w' B cs e := by
  unfold ObjBlk; rw [hb]; exact h
theorem ObjBlk.noLoop {w : World} {B : Nat} {cs : Array Value} {e : TypeId} {r : Loop} (h : ObjBlk w B cs e) (hb : w.heap[B]? = some (.loop r)) : False := by
  rcases h with h | ⟨_,_,h,_⟩ <;> (rw [hb] at h; cases h)
theorem ObjRep.block {w : World} {β : Bet} {Z : Blk} {g : Nat} {c : List D} {B : Nat} {cs : Array Value} {e : TypeId} (h : ObjRep w β Z g c B cs e) {e' n : Nat} (hs : w.shape? B = some (e',n)) : w.heap[B]? = some (.cells cs e (0,0)) := by
  rcases h.blk with h | ⟨_,_,h,_⟩
  · exact h
  · simp [World.shape?,h] at hs
theorem ObjRep.map {w : World} {β : Bet} {Z : Blk} {g : Nat} {c : List D} {B : Nat} {cs : Array Value} {e : TypeId} (h : ObjRep w β Z g c B cs e) (hs : kind? w B = some none) : ∃ en n,w.heap[B]? = some (.map en n) ∧ cs = #[mpV (en.toList.map fun x => (x.key,x.val))] := by
  rcases h.blk with h | h
  · simp [kind?,h] at hs
  · exact h
theorem ObjRep.cell {w : World} {β : Bet} {Z : Blk} {g : Nat} {c : List D} {B : Nat} {cs : Array Value} {e : TypeId} (h : ObjRep w β Z g c B cs e) {e' n : Nat} (hs : w.shape? B = some (e',n)) (i : Nat) (hi : i < c.length) :
    w.cell? ⟨B,i,none⟩ = some (cs.getD i undef) := by
  have := h.fits
  simp [World.cell?,h.block hs,show i < cs.size by omega]
theorem Holds.real {w : World} {β : Bet} {Z : Blk} {g : Nat} {c : List D} {B : Nat} (h : Holds w β Z g c) (hb : β g = some B) : ∃ cs e,ObjRep w β Z g c B cs e := by
  rcases h with ⟨_,h⟩ | ⟨B',cs,e,h⟩
  · rw [h] at hb; cases hb
  · have := h.at_
    rw [hb] at this
    cases this
    exact ⟨cs,e,h⟩
theorem Holds.mono {w w' : World} {β β' : Bet} {Z Z' X : Blk} {g : Nat} {c : List D} (h : Holds w β Z g c) (hf : Fr X w w') (hX : ∀ b,b < w.heap.size → X b → Z b)
    (hg : ∀ B, β g = some B → ¬ X B) (hβ : Ext β β') (hn : β g = none → β' g = none) (hZ : ∀ b,b < w.heap.size → (Z' b ↔ Z b)) : Holds w' β' Z' g c := by
  rcases h with ⟨h1,h2⟩ | ⟨B,cs,e,h⟩
  · exact .inl ⟨h1,hn h2⟩
  · have hlt := h.lt
    exact .inr ⟨B,cs,e,hβ _ _ h.at_,(hZ B hlt).2 h.ours,h.blk.trans (hf.same B hlt (hg B h.at_)),h.fits,fun i hi => (h.rep i hi).mono hf hX hβ fun b hb hz => (hZ b hb).1 hz⟩
def GL : Nat → D
  | g => .val (.pointer (some ⟨g,0,none⟩))
end Go.Proofs.YtbncpngjclabhaaGreat.Lift
namespace Go.Proofs.YtbncpngjclabhaaGreat.Lift
open Go Go.RowKit

structure Eff where
  d : D
  rd : List Nat
  up : List (Nat × Option (List D))
def Eff.ids (ef : Eff) : List Nat := ef.up.map (·.1)
def upH (H : Heap) (up : List (Nat × Option (List D))) : Heap := fun g => match up.find? (·.1 == g) with
  | some x => x.2
  | none => H g
def Wr (H : Heap) (ef : Eff) (β : Bet) : Blk := fun b => ∃ g c,g ∈ ef.ids ∧ H g = some c ∧ β g = some b
def Zof (Z : Blk) (β' : Bet) (ef : Eff) : Blk := fun b => Z b ∨ ∃ g,g ∈ ef.ids ∧ β' g = some b

structure PostAt (w : World) (β : Bet) (Z : Blk) (H : Heap) (ef : Eff) (v : Value) (w' : World) (β' : Bet) : Prop where
  ext : Ext β β'
  dom : ∀ g, β' g ≠ none → β g ≠ none ∨ (g ∈ ef.ids ∧ H g = none)
  fr : Fr (Wr H ef β) w w'
  rep : Rep w' β' (Zof Z β' ef) v ef.d
  objs : ∀ g c,g ∈ ef.ids → upH H ef.up g = some c → Holds w' β' (Zof Z β' ef) g c
  orig : ∀ g c B,g ∈ ef.ids → upH H ef.up g = some c → β' g = some B → w.heap.size ≤ B ∨ Wr H ef β B
  zold : ∀ b,b < w.heap.size → Zof Z β' ef b → Z b
  zlt : (∀ b,Z b → b < w.heap.size) → ∀ b,Zof Z β' ef b → b < w'.heap.size
  inj : ∀ g g' c c' B,g ∈ ef.ids → g' ∈ ef.ids → upH H ef.up g = some c → upH H ef.up g' = some c' → β' g = some B → β' g' = some B → g = g'
def Post (w : World) (β : Bet) (Z : Blk) (H : Heap) (ef : Eff) (v : Value) (w' : World) : Prop := ∃ β',PostAt w β Z H ef v w' β'

structure PreOp (w : World) (β : Bet) (Z : Blk) (H : Heap) (ef : Eff) : Prop where
  objs : ∀ g c,g ∈ ef.rd ∨ g ∈ ef.ids → H g = some c → Holds w β Z g c
  inj : ∀ g g' c c' B,g ∈ ef.rd ∨ g ∈ ef.ids → g' ∈ ef.rd ∨ g' ∈ ef.ids → H g = some c → H g' = some c' → β g = some B → β g' = some B → g = g'
  fresh : ∀ g,g ∈ ef.ids → H g = none → β g = none
  zlt : ∀ b,Z b → b < w.heap.size
  gl : ∀ g,Rep w (fun _ => none) Z (.pointer (some ⟨g,0,none⟩)) (GL g)

def NextPost (P : Program) (r : Result Next) (post : Value → World → Prop) : Prop := match r with
  | .ok (.value v) w' => post v w'
  | .ok .skip w' => post undef w'
  | .ok (.enter f args) w' => Calls P f args w' fun e w'' => ∃ v,e = .returned v ∧ post v w''
  | .ok (.round l f tmps assign body) w' => RoundIn Fence.wide 0 P l f tmps assign body w' fun e w'' => ∃ v,e = .returned v ∧ post v w''
  | _ => False
def Fw (r : Option Nat) : Fence := { Fence.wide with round := r }
theorem calls_fw {P : Program} {f : FuncId} {args : Array Value} {w : World} {R : Ending → World → Prop} (r : Option Nat) (n : Nat) (h : Calls P f args w R) : CallsIn (Fw r) n P f args w R := (callsIn_wide (n := n)).2 h
theorem round_fw {P : Program} {l : Nat} {f : FuncId} {tmps : Array Value} {assign body : Code} {w : World} {R : Ending → World → Prop} (r : Option Nat) (n m : Nat) (h : RoundIn Fence.wide m P l f tmps assign body w R) : RoundIn (Fw r) n P l f tmps assign body w R :=
  ⟨trivial,fun c cs _ => h.2 c cs (room_wide _)⟩

def Does (P : Program) (o : Oper) (ρ : Operand → D) (H : Heap) (ef : Eff) : Prop :=
  ∀ (w : World) (ev : Operand → Value) (β : Bet) (Z : Blk),(∀ x ∈ o.op.operands,Rep w β Z (ev x) (ρ x)) → PreOp w β Z H ef →
    NextPost P ((execOp ev o).run P w) (Post w β Z H ef)

theorem upH_mem {H H' : Heap} {up : List (Nat × Option (List D))} {g : Nat} (h : g ∈ up.map (·.1)) : upH H up g = upH H' up g := by
  obtain ⟨x,hx,rfl⟩ := List.mem_map.1 h
  unfold upH
  cases hf : up.find? (·.1 == x.1) with
  | none => have := List.find?_eq_none.1 hf x hx; simp at this
  | some y => rfl
theorem upH_not {H : Heap} {up : List (Nat × Option (List D))} {g : Nat} (h : g ∉ up.map (·.1)) : upH H up g = H g := by
  unfold upH
  cases hf : up.find? (·.1 == g) with
  | none => rfl
  | some y =>
    have h1 := List.mem_of_find?_eq_some hf
    have h2 := List.find?_some hf
    simp only [beq_iff_eq] at h2
    exact absurd (List.mem_map.2 ⟨y,h1,h2⟩) h

theorem Does.congr {P : Program} {o : Oper} {ρ ρ' : Operand → D} {H H' : Heap} {ef : Eff} (h : Does P o ρ H ef) (hρ : ∀ x ∈ o.op.operands, ρ x = ρ' x)
    (hH : ∀ g,g ∈ ef.rd ∨ g ∈ ef.ids → H g = H' g) : Does P o ρ' H' ef := by
  intro w ev β Z hev hpre
  have hwr : Wr H ef β = Wr H' ef β := by
    funext b; apply propext
    constructor
    · rintro ⟨g,c,h1,h2,h3⟩; exact ⟨g,c,h1,(hH g (.inr h1)).symm.trans h2,h3⟩
    · rintro ⟨g,c,h1,h2,h3⟩; exact ⟨g,c,h1,(hH g (.inr h1)).trans h2,h3⟩
  have key : ∀ v w',Post w β Z H ef v w' → Post w β Z H' ef v w' := by
    rintro v w' ⟨β',p⟩
    refine ⟨β',p.ext,fun g hg => (p.dom g hg).imp id fun h => ⟨h.1,(hH g (.inr h.1)).symm.trans h.2⟩,hwr ▸ p.fr,p.rep,fun g c hg hc => p.objs g c hg ((upH_mem hg).trans hc),fun g c B hg hc hb => hwr ▸ p.orig g c B hg ((upH_mem hg).trans hc) hb,p.zold,p.zlt,
      fun g g' c c' B hg hg' hc hc' => p.inj g g' c c' B hg hg' ((upH_mem hg).trans hc) ((upH_mem hg').trans hc')⟩
  have h1 := h w ev β Z (fun x hx => by rw [hρ x hx]; exact hev x hx)
    ⟨fun g c hg hc => hpre.objs g c hg ((hH g hg).symm.trans hc), fun g g' c c' B hg hg' hc hc' => hpre.inj g g' c c' B hg hg' ((hH g hg).symm.trans hc) ((hH g' hg').symm.trans hc'),
     fun g hg hn => hpre.fresh g hg ((hH g (.inr hg)).symm.trans hn),hpre.zlt,hpre.gl⟩
  unfold NextPost at *
  split at h1
  · exact key _ _ h1
  · exact key _ _ h1
  · exact h1.mono fun e w'' ⟨v,he,hp⟩ => ⟨v,he,key _ _ hp⟩
  · exact h1.mono fun e w'' ⟨v,he,hp⟩ => ⟨v,he,key _ _ hp⟩
  · exact h1.elim

/-! ### states -/
structure FSt where
  env : Nat → D
  H : Heap
def FSt.ev (s : FSt) : Operand → D
  | .tmp t => s.env t
  | .const v => .val v
  | .global g => GL g
  | .func f => .fn f [] []
def FSt.app (s : FSt) (dst : Option Tmp) (ef : Eff) : FSt := ⟨fun t => if dst = some t then ef.d else s.env t,upH s.H ef.up⟩

structure Lo where
  p : Prop
  n : Nat
def Mk (lo : Lo) (w : World) (Z : Blk) (d : Deferred) : Prop := lo.p ∧ ∃ B,d = { target := .collected B,args := #[] } ∧ lo.n ≤ B ∧ ¬ Z B ∧ B < w.heap.size ∧ w.heap[B]? = some (.deferred (some []))
theorem Mk.mono {lo : Lo} {w w' : World} {Z Z' X : Blk} {d : Deferred} (h : Mk lo w Z d) (hf : Fr X w w') (hX : ∀ b,b < w.heap.size → X b → Z b) (hZ : ∀ b,b < w.heap.size → Z' b → Z b) : Mk lo w' Z' d := by
  obtain ⟨hp,B,h1,h0,h2,h3,h4⟩ := h
  exact ⟨hp,B,h1,h0,fun h => h2 (hZ B h3 h),Nat.lt_of_lt_of_le h3 hf.size,(hf.same B h3 fun hx => h2 (hX B h3 hx)).trans h4⟩
structure Ctx where
  r : Option Nat
  w0 : World
  pre : List Nat
  preB : Blk
  Zl : Blk
  Z0 : Blk
  β0 : Bet
  n : Nat
  own : ∀ b,preB b → Zl b → ∃ g ∈ pre, β0 g = some b
  rl : ∀ l,r = some l → ∃ rr,w0.heap[l]? = some (.loop rr) ∧ ¬ preB l
  gl : ∀ g,Rep w0 (fun _ => none) (fun b => preB b ∨ Z0 b) (.pointer (some ⟨g,0,none⟩)) (GL g)
abbrev Ctx.lo (C : Ctx) : Lo := ⟨C.r = none,C.w0.heap.size⟩
structure RelS (C : Ctx) (β : Bet) (Z : Blk) (s : FSt) (a : Act) (w : World) : Prop where
  size : a.tmps.size = C.n
  defers : a.defers.Nodup ∧ ∀ d ∈ a.defers,Mk C.lo w Z d
  env : ∀ t,Rep w β Z (a.tmps.getD t undef) (s.env t)
  objs : ∀ g c,s.H g = some c → Holds w β Z g c
  inj : ∀ g g' c c' B,s.H g = some c → s.H g' = some c' → β g = some B → β g' = some B → g = g'
  fr : Fr C.preB C.w0 w
  z0 : ∀ b,b < C.w0.heap.size → C.Zl b → Z b
  old : ∀ b,b < C.w0.heap.size → Z b → C.Z0 b
  orig : ∀ g c B,s.H g = some c → β g = some B → C.w0.heap.size ≤ B ∨ C.preB B
  ext : ∀ g ∈ C.pre, ∀ B,C.β0 g = some B → β g = some B
  zlt : ∀ b,Z b → b < w.heap.size

theorem gl_new {w : World} {X Z : Blk} {v : Value} {d : D} (h : Rep w (fun _ => none) Z v d) (hX : ∀ b,X b → Z b) : Rep w (fun _ => none) (fun b => X b ∨ Z b) v d :=
  h.mono (Fr.refl (fun _ => False) w) (fun _ _ h => h.elim) (Ext.refl _) fun b _ hb => hb.elim (hX b) id
theorem RelS.gl {C : Ctx} {β : Bet} {Z : Blk} {s : FSt} {a : Act} {w : World} (h : RelS C β Z s a w) (g : Nat) : Rep w (fun _ => none) Z (.pointer (some ⟨g,0,none⟩)) (GL g) :=
  (C.gl g).mono h.fr (fun _ _ hx => .inl hx) (Ext.refl _) fun b hb hz => .inr (h.old b hb hz)
theorem RelS.ev {C : Ctx} {β : Bet} {Z : Blk} {s : FSt} {a : Act} {w : World} (h : RelS C β Z s a w) (x : Operand) : Rep w β Z (a.eval x) (s.ev x) := by
  cases x with
  | tmp t => exact h.env t
  | const v => exact .val v
  | global g => exact (h.gl g).up
  | func f => exact .fn f #[] #[] [] [] rfl (fun i hi => by simp at hi) rfl fun i hi => by simp at hi

theorem getD_put {a : Act} {dst : Option Tmp} {v : Value} {t : Nat} : (a.put dst v).tmps.getD t undef = if dst = some t ∧ t < a.tmps.size then v else a.tmps.getD t undef := by
  cases dst with
  | none => simp [Act.put]
  | some d =>
    by_cases hd : d = t
    · subst hd
      by_cases hl : d < a.tmps.size <;> simp [Act.put,hl]
    · simp [Act.put,hd,Array.getElem?_setIfInBounds_ne hd]

theorem RelS.step {C : Ctx} {β β' : Bet} {Z : Blk} {s : FSt} {a : Act} {w w' : World} {ef : Eff} {dst : Option Tmp} {v : Value} (h : RelS C β Z s a w)
    (hd : ∀ d,dst = some d → d < C.n) (p : PostAt w β Z s.H ef v w' β') : RelS C β' (Zof Z β' ef) (s.app dst ef) (a.put dst v) w' := by
  have hwz : ∀ b,b < w.heap.size → Wr s.H ef β b → Z b := by
    rintro b _ ⟨g,c,_,hc,hb⟩
    obtain ⟨cs,e,ho⟩ := (h.objs g c hc).real hb
    exact ho.ours
  have hHnot : ∀ g,g ∉ ef.ids → (s.app dst ef).H g = s.H g := fun g hg => upH_not hg
  have hlt : ∀ g c B,s.H g = some c → β g = some B → B < w.heap.size := fun g c B hc hb => by
    obtain ⟨cs,e,ho⟩ := (h.objs g c hc).real hb
    exact ho.lt
  have hnone : ∀ g,g ∉ ef.ids → β g = none → β' g = none := fun g hg hn => by
    cases hb : β' g with
    | none => rfl
    | some B =>
      rcases p.dom g (by rw [hb]; simp) with h1 | h1
      · exact absurd hn h1
      · exact absurd h1.1 hg
  have hback : ∀ g B,g ∉ ef.ids → β' g = some B → β g = some B := fun g B hg hb => by
    cases hb0 : β g with
    | none => rw [hnone g hg hb0] at hb; cases hb
    | some B0 => exact (p.ext _ _ hb0).symm.trans hb
  refine ⟨?_,?_,fun t => ?_,fun g c hc => ?_,fun g g' c c' B hc hc' hb hb' => ?_,?_,fun b hl hb => .inl (h.z0 b hl hb),fun b hb hz => h.old b hb (p.zold b (Nat.lt_of_lt_of_le hb h.fr.size) hz),fun g c B hc hB => ?_,fun g hg B hB => p.ext _ _ (h.ext g hg B hB),p.zlt h.zlt⟩
  · cases dst <;> simp [Act.put,h.size]
  · have : (a.put dst v).defers = a.defers := by cases dst <;> rfl
    rw [this]
    exact ⟨h.defers.1,fun d hd => (h.defers.2 d hd).mono p.fr hwz p.zold⟩
  · rw [getD_put]
    simp only [FSt.app]
    by_cases ht : dst = some t
    · rw [if_pos ⟨ht,h.size ▸ hd t ht⟩,if_pos ht]; exact p.rep
    · rw [if_neg (fun hh => ht hh.1),if_neg ht]
      exact (h.env t).mono p.fr hwz p.ext p.zold
  · by_cases hg : g ∈ ef.ids
    · exact p.objs g c hg hc
    · rw [hHnot g hg] at hc
      refine (h.objs g c hc).mono p.fr hwz (fun B hB hx => ?_) p.ext (hnone g hg) (fun b hb => ⟨p.zold b hb,.inl⟩)
      obtain ⟨g0,c0,hg0,hc0,hb0⟩ := hx
      exact hg (h.inj g g0 c c0 B hc hc0 hB hb0 ▸ hg0)
  · have mix : ∀ g g' c c',g ∈ ef.ids → g' ∉ ef.ids → (s.app dst ef).H g = some c → s.H g' = some c' → β' g = some B → β' g' = some B → False := by
      intro g g' c c' hg hg' hc hc' hb hb'
      have hB := hback g' B hg' hb'
      rcases p.orig g c B hg hc hb with h1 | ⟨g0,c0,hg0,hc0,hb0⟩
      · have := hlt g' c' B hc' hB; omega
      · exact hg' (h.inj g0 g' c0 c' B hc0 hc' hb0 hB ▸ hg0)
    by_cases hg : g ∈ ef.ids <;> by_cases hg' : g' ∈ ef.ids
    · exact p.inj g g' c c' B hg hg' hc hc' hb hb'
    · rw [hHnot g' hg'] at hc'
      exact (mix g g' c c' hg hg' hc hc' hb hb').elim
    · rw [hHnot g hg] at hc
      exact (mix g' g c' c hg' hg hc' hc hb' hb).elim
    · rw [hHnot g hg] at hc
      rw [hHnot g' hg'] at hc'
      exact h.inj g g' c c' B hc hc' (hback g B hg hb) (hback g' B hg' hb')
  · refine h.fr.trans p.fr fun b hb hw => ?_
    obtain ⟨g,c,_,hc,hB⟩ := hw
    rcases h.orig g c b hc hB with h1 | h1
    · omega
    · exact h1
  · by_cases hg : g ∈ ef.ids
    · rcases p.orig g c B hg hc hB with h1 | ⟨g0,c0,_,hc0,hb0⟩
      · exact .inl (Nat.le_trans h.fr.size h1)
      · exact h.orig g0 c0 B hc0 hb0
    · rw [hHnot g hg] at hc
      exact h.orig g c B hc (hback g B hg hB)

theorem RelS.wp {P : Program} {C : Ctx} {β : Bet} {Z : Blk} {s : FSt} {a : Act} {w : World} {ef : Eff} {o : Oper} {K : Act → World → Prop} {Q : Exit → Act → World → Prop} (h : RelS C β Z s a w)
    (hd : ∀ d,o.dst = some d → d < C.n) (hpl : ∀ c,o.op ≠ .defer c) (hdo : Does P o s.ev s.H ef) (hf : ∀ g,g ∈ ef.ids → s.H g = none → β g = none)
    (hK : ∀ β' Z' v w',PostAt w β Z s.H ef v w' β' → RelS C β' Z' (s.app o.dst ef) (a.put o.dst v) w' → K (a.put o.dst v) w') : o.wpIn (Fw C.r) 0 P a w K Q := by
  have h1 := hdo w a.eval β Z (fun x _ => h.ev x) ⟨fun g c _ hc => h.objs g c hc,fun g g' c c' B _ _ => h.inj g g' c c' B,hf,h.zlt,h.gl⟩
  refine ⟨fun _ _ => trivial,?_⟩
  rw [Oper.semAt_eq _ _ _ hpl]
  generalize (execOp a.eval o).run P w = r at h1
  unfold NextPost at h1
  split at h1
  · obtain ⟨β',p⟩ := h1
    exact hK β' _ _ _ p (h.step hd p)
  · obtain ⟨β',p⟩ := h1
    exact hK β' _ _ _ p (h.step hd p)
  · refine ⟨fun hh => (by cases hh),(calls_fw C.r (0 - 1) h1).mono ?_⟩
    rintro e w'' ⟨v,rfl, β',p⟩
    exact hK β' _ _ _ p (h.step hd p)
  · refine ⟨fun hh => (by cases hh),(round_fw C.r (0 - 1) 0 h1).mono ?_⟩
    rintro e w'' ⟨v,rfl, β',p⟩
    exact hK β' _ _ _ p (h.step hd p)
  · exact h1.elim

/-! ### regions -/
section
variable {P : Program} {ops : Array Oper} {md : Region.Mode} {base : Nat} {dr : Bool}

def wantedA (ops : Array Oper) (o : Oper) (s : FSt) : Option Bool := match o.guard with
  | none => some true
  | some (j,want) => match (ops[j]?).bind (·.dst) with
    | none => some false
    | some t => match s.env t with
      | .val (.bool b) => some (b == want)
      | .val _ => some false
      | _ => none
theorem RelS.wanted {C : Ctx} {β : Bet} {Z : Blk} {s : FSt} {a : Act} {w : World} {o : Oper} {b : Bool} (h : RelS C β Z s a w) (hw : wantedA ops o s = some b) :
    Region.wanted o (yielded ops a.tmps) = b := by
  unfold wantedA at hw
  unfold Region.wanted
  cases hg : o.guard with
  | none => simpa [hg] using hw
  | some jw =>
    obtain ⟨j,want⟩ := jw
    simp only [hg] at hw
    show (yielded ops a.tmps j == some want) = b
    unfold yielded
    cases ht : (ops[j]?).bind (·.dst) with
    | none => simp only [ht] at hw; cases hw; rfl
    | some t =>
      simp only [ht] at hw
      have he := h.env t
      simp only [Option.bind_some]
      cases hd : s.env t with
      | val v =>
        rw [hd] at he hw
        have he' := he.val_eq
        subst he'
        clear he
        by_cases hlt : t < a.tmps.size
        · have e1 : a.tmps.getD t undef = a.tmps[t] := by simp [hlt]
          rw [e1] at hw
          simp only [hlt,Array.getElem?_eq_getElem]
          generalize a.tmps[t] = v at hw
          cases v <;> simp at hw <;> subst hw <;> simp
        · have e1 : a.tmps.getD t undef = undef := by simp [hlt]
          rw [e1] at hw
          simp [undef] at hw
          subst hw
          simp [hlt]
      | _ => rw [hd] at hw; simp at hw

abbrev Log := Nat → Eff → Prop
def apartE (x y : Eff) : Prop := (∀ g,g ∈ x.ids → g ∉ y.rd ∧ g ∉ y.ids) ∧ (∀ g,g ∈ y.ids → g ∉ x.rd)
theorem apartE.symm {x y : Eff} (h : apartE x y) : apartE y x := ⟨fun g hg => ⟨h.2 g hg,fun hx => (h.1 g hx).2 hg⟩,fun g hg => (h.1 g hg).1⟩
inductive Anc (md : Region.Mode) (ops : Array Oper) : Nat → Nat → Prop
  | base (j : Nat) (o : Oper) (e : Edge) : ops[j]? = some o → e ∈ o.after → Region.binds md e = true → Anc md ops j e.on
  | step (j k : Nat) (o : Oper) (e : Edge) : ops[j]? = some o → e ∈ o.after → Region.binds md e = true → Anc md ops e.on k → Anc md ops j k
def Closed (md : Region.Mode) (ops : Array Oper) (listed : Array Bool) : Prop := ∀ m o,ops[m]? = some o → listed.getD m false = true → ∀ e ∈ o.after,Region.binds md e = true → listed.getD e.on false = true
theorem Anc.listed {listed : Array Bool} (hc : Closed md ops listed) {j k : Nat} (h : Anc md ops j k) (hj : ∀ o,ops[j]? = some o → ∀ e ∈ o.after,Region.binds md e = true → listed.getD e.on false = true) : listed.getD k false = true := by
  induction h with
  | base j o e ho he hb => exact hj o ho e he hb
  | step j k o e ho he hb _ ih => exact ih fun o' ho' => hc _ o' ho' (hj o ho e he hb)
theorem Closed.set {listed : Array Bool} (hc : Closed md ops listed) {j : Nat} (hj : j ∈ Region.ready md ops listed) : Closed md ops (listed.setIfInBounds j true) := by
  intro m o ho hm e he hb
  by_cases hmj : m = j
  · subst hmj
    obtain ⟨_,o',ho',hall⟩ := mem_ready.1 hj
    rw [ho] at ho'
    cases ho'
    exact getD_set_true (hall e he hb)
  · rw [getD_set_ne false (Ne.symm hmj)] at hm
    exact getD_set_true (hc m o ho hm e he hb)

def compat (dr : Bool) (md : Region.Mode) (ops : Array Oper) (log : Log) (j : Nat) (ef : Eff) : Prop := dr = true → ∀ k efk,log k efk → Anc md ops j k ∨ apartE efk ef
def okIds (base i : Nat) (s : FSt) (ef : Eff) : Prop := ∀ g,g ∈ ef.ids → s.H g = none → base + 8 * i ≤ g ∧ g < base + 8 * i + 8
def Log.add (log : Log) (i : Nat) (ef : Eff) : Log := fun k e => log k e ∨ (k = i ∧ e = ef)
def skipEff : Eff := ⟨.val undef,[],[]⟩
def stepA (dr : Bool) (P : Program) (md : Region.Mode) (ops : Array Oper) (base : Nat) (i : Nat) (o : Oper) (s : FSt) (log : Log) (s' : FSt) (log' : Log) : Prop :=
  (wantedA ops o s = some true ∧ ∃ ef,Does P o s.ev s.H ef ∧ okIds base i s ef ∧ compat dr md ops log i ef ∧ s' = s.app o.dst ef ∧ log' = Log.add log i ef) ∨
  (wantedA ops o s = some false ∧ s' = s.app o.dst skipEff ∧ log' = log)

theorem app_comm (s : FSt) {x y : Option Tmp} {ex ey : Eff} (h : ∀ d,x = some d → y ≠ some d) (he : ∀ g,g ∈ ex.ids → g ∉ ey.ids) : (s.app x ex).app y ey = (s.app y ey).app x ex := by
  simp only [FSt.app,FSt.mk.injEq]
  constructor
  · funext t
    by_cases hx : x = some t <;> by_cases hy : y = some t <;> simp [hx,hy]
    exact absurd hy (h t hx)
  · funext g
    by_cases hx : g ∈ ex.ids <;> by_cases hy : g ∈ ey.ids
    · exact absurd hy (he g hx)
    · rw [upH_not hy]; exact upH_mem hx
    · rw [upH_not (H := upH s.H ey.up) hx]; exact upH_mem hy
    · rw [upH_not hy,upH_not hx,upH_not (H := upH s.H ey.up) hx,upH_not hy]

theorem app_ev {s : FSt} {dst : Option Tmp} {ef : Eff} {o : Oper} (h : ∀ d,dst = some d → d ∉ o.looksAt ops) : ∀ x ∈ o.op.operands,(s.app dst ef).ev x = s.ev x := by
  intro x hx
  cases x with
  | tmp t =>
    simp only [FSt.ev,FSt.app]
    by_cases hd : dst = some t
    · exact absurd (show t ∈ o.looksAt ops from List.mem_append_left _ (List.mem_filterMap.2 ⟨Operand.tmp t,by simpa using hx,rfl⟩)) (h t hd)
    · rw [if_neg hd]
  | _ => rfl
theorem app_wanted {s : FSt} {dst : Option Tmp} {ef : Eff} {o : Oper} (h : ∀ d,dst = some d → d ∉ o.looksAt ops) : wantedA ops o (s.app dst ef) = wantedA ops o s := by
  unfold wantedA
  cases hg : o.guard with
  | none => rfl
  | some jw =>
    obtain ⟨j,want⟩ := jw
    simp only
    cases ht : (ops[j]?).bind (·.dst) with
    | none => rfl
    | some t =>
      have : dst ≠ some t := fun hd => h t hd (by simp [Oper.looksAt,hg,ht])
      simp only [FSt.app,if_neg this]

theorem stepA_comm (hdr : dr = true) {i j : Nat} {oi oj : Oper} {s s1 s2 : FSt} {lg log1 log2 : Log} (hap : oi.apart ops oj = true) (hanc : ¬ Anc md ops j i)
    (h1 : stepA dr P md ops base i oi s lg s1 log1) (h2 : stepA dr P md ops base j oj s1 log1 s2 log2) (hij : i ≠ j) :
    ∃ s1' log1',stepA dr P md ops base j oj s lg s1' log1' ∧ stepA dr P md ops base i oi s1' log1' s2 log2 := by
  obtain ⟨a1,a2,a3⟩ := Oper.apart_spec hap
  have a2' : ∀ d,oj.dst = some d → oi.dst ≠ some d := fun d hd hi => a2 d hi hd
  rcases h1 with ⟨w1,efi,di,oki,ci,rfl,rfl⟩ | ⟨w1,rfl,rfl⟩ <;> rcases h2 with ⟨w2,efj,dj,okj,cj,rfl,rfl⟩ | ⟨w2,rfl,rfl⟩ <;> rw [app_wanted a1] at w2
  · have hap : apartE efi efj := (cj hdr i efi (.inr ⟨rfl,rfl⟩)).resolve_left hanc
    have hHj : ∀ g,g ∈ efj.rd ∨ g ∈ efj.ids → (s.app oi.dst efi).H g = s.H g := fun g hg => upH_not fun hi => by
      have := hap.1 g hi
      rcases hg with hg | hg
      · exact this.1 hg
      · exact this.2 hg
    have hHi : ∀ g,g ∈ efi.rd ∨ g ∈ efi.ids → s.H g = (s.app oj.dst efj).H g := fun g hg => (upH_not fun hj => by
      rcases hg with hg | hg
      · exact hap.2 g hj hg
      · exact (hap.1 g hg).2 hj).symm
    refine ⟨s.app oj.dst efj,Log.add lg j efj,.inl ⟨w2,efj,dj.congr (app_ev a1) hHj,fun g hg hn => okj g hg ((hHj g (.inr hg)).trans hn),fun _ k ek hk => cj hdr k ek (.inl hk),rfl,rfl⟩,
      .inl ⟨by rw [app_wanted a3]; exact w1,efi,di.congr (fun x hx => (app_ev a3 x hx).symm) hHi,fun g hg hn => oki g hg ((hHi g (.inr hg)).trans hn),?_,app_comm s a2 fun g hg => (hap.1 g hg).2,?_⟩⟩
    · rintro _ k ek (hk | ⟨rfl,rfl⟩)
      · exact ci hdr k ek hk
      · exact .inr hap.symm
    · funext k e; simp only [Log.add]; apply propext; constructor <;> (intro h; rcases h with (h | h) | h <;> simp_all)
  · refine ⟨s.app oj.dst skipEff,lg,.inr ⟨w2,rfl,rfl⟩,.inl ⟨by rw [app_wanted a3]; exact w1,efi,di.congr (fun x hx => (app_ev a3 x hx).symm) (fun g _ => rfl),oki,ci,app_comm s a2 (fun g _ => by simp [skipEff,Eff.ids]),rfl⟩⟩
  · refine ⟨s.app oj.dst efj,_,.inl ⟨w2,efj,dj.congr (app_ev a1) (fun g _ => rfl),okj,cj,rfl,rfl⟩,.inr ⟨by rw [app_wanted a3]; exact w1,app_comm s a2 (fun g hg => by simp [skipEff,Eff.ids] at hg),rfl⟩⟩
  · exact ⟨s.app oj.dst skipEff,_,.inr ⟨w2,rfl,rfl⟩,.inr ⟨by rw [app_wanted a3]; exact w1,app_comm s a2 (fun g hg => by simp [skipEff,Eff.ids] at hg),rfl⟩⟩

def aAny (dr : Bool) (P : Program) (md : Region.Mode) (ops : Array Oper) (base : Nat) (Q : FSt → Prop) : Nat → Array Bool → FSt → Log → Prop
  | 0,listed,s,_ => Region.ready md ops listed = [] ∧ Q s
  | fuel + 1,listed,s,log => (Region.ready md ops listed = [] → Q s) ∧
    ∀ i ∈ Region.ready md ops listed, ∀ o,ops[i]? = some o → ∃ s' log',stepA dr P md ops base i o s log s' log' ∧ aAny dr P md ops base Q fuel (listed.setIfInBounds i true) s' log'

theorem aAny_first (hdr : dr = true) {Q : FSt → Prop} {i : Nat} {oi : Oper} (hi : ops[i]? = some oi) : ∀ (fuel : Nat) (listed : Array Bool) (s : FSt) (log : Log) (s1 : FSt) (log1 : Log), Closed md ops listed →
      (∀ j oj,ops[j]? = some oj → j ≠ i → listed.getD j true = false → (∀ e ∈ oj.after,Region.binds md e = true → e.on ≠ i) → oi.apart ops oj = true) →
      i ∈ Region.ready md ops listed → stepA dr P md ops base i oi s log s1 log1 →
      aAny dr P md ops base Q fuel (listed.setIfInBounds i true) s1 log1 → aAny dr P md ops base Q (fuel + 1) listed s log := by
  intro fuel
  induction fuel with
  | zero =>
    intro listed s log s1 log1 hcl _ hr hst H
    refine ⟨fun h => (by rw [h] at hr; cases hr),fun j hj o ho => ?_⟩
    by_cases hji : j = i
    · subst hji; rw [hi] at ho; cases ho; exact ⟨s1,log1,hst,H⟩
    · have := ready_mono hj hji
      rw [H.1] at this
      cases this
  | succ fuel ih =>
    intro listed s log s1 log1 hcl hfree hr hst H
    refine ⟨fun h => (by rw [h] at hr; cases hr),fun j hj o ho => ?_⟩
    by_cases hji : j = i
    · subst hji; rw [hi] at ho; cases ho; exact ⟨s1,log1,hst,H⟩
    · obtain ⟨s2,log2,hst2,H2⟩ := H.2 j (ready_mono hj hji) o ho
      obtain ⟨hjun,oj,hoj,hall⟩ := mem_ready.1 hj
      rw [ho] at hoj
      cases hoj
      have hun : listed.getD i true = false := (mem_ready.1 hr).1
      have hunf : listed.getD i false = false := by
        rcases Nat.lt_or_ge i listed.size with h' | h'
        · simp [h'] at hun ⊢; exact hun
        · simp [Array.getElem?_eq_none h'] at hun
      have hnot : ∀ e ∈ o.after,Region.binds md e = true → e.on ≠ i := fun e he hb heq => by
        have h1 := hall e he hb
        rw [heq,hunf] at h1
        cases h1
      have hanc : ¬ Anc md ops j i := fun h => by
        have := h.listed hcl (fun o' ho' => by rw [ho] at ho'; cases ho'; exact hall)
        rw [hunf] at this
        cases this
      obtain ⟨s1',log1',hs1,hs2⟩ := stepA_comm hdr (hfree j o ho hji hjun hnot) hanc hst hst2 (Ne.symm hji)
      refine ⟨s1',log1',hs1,ih _ s1' log1' s2 log2 (hcl.set hj) ?_ (ready_mono hr (Ne.symm hji)) hs2 ?_⟩
      · intro k ok hk hki hun' hno
        refine hfree k ok hk hki ?_ hno
        by_cases hjk : j = k
        · subst hjk; exact hjun
        · rw [getD_set_ne true hjk] at hun'; exact hun'
      · rw [Array.setIfInBounds_comm _ _ hji]; exact H2

def aLex (dr : Bool) (P : Program) (md : Region.Mode) (ops : Array Oper) (base : Nat) (Q : FSt → Prop) : List Oper → Nat → FSt → Log → Prop
  | [],_,s,_ => Q s
  | o :: l,k,s,log => ∃ s' log',stepA dr P md ops base k o s log s' log' ∧ aLex dr P md ops base Q l (k + 1) s' log'

theorem aAny_lex (hdr : dr = true) {Q : FSt → Prop} : ∀ (l : List Oper) (k : Nat) (listed : Array Bool) (s : FSt) (log : Log),Closed md ops listed → (∀ j,l[j]? = ops[k + j]?) →
    Region.lexFrom md ops l.length k listed = true → aLex dr P md ops base Q l k s log → aAny dr P md ops base Q l.length listed s log
  | [],_,_,_,_,_,_,hB,h => ⟨by simpa [Region.lexFrom] using hB,h⟩
  | o :: l,k,listed,s,log,hc,hl,hB,h => by
    have h0 : ops[k]? = some o := by simpa using (hl 0).symm
    simp only [List.length_cons,Region.lexFrom,Bool.and_eq_true] at hB
    obtain ⟨⟨hr,hf⟩,hB'⟩ := hB
    obtain ⟨s',log',hst,hK⟩ := h
    have hr' : k ∈ Region.ready md ops listed := by simpa using hr
    exact aAny_first hdr h0 l.length listed s log s' log' hc (Region.free_spec h0 hf) hr' hst
      (aAny_lex hdr l (k + 1) _ _ _ (hc.set hr') (fun j => by have := hl (j + 1); simpa [Nat.add_assoc,Nat.add_comm 1 j] using this) hB' hK)

def FreeB (base : Nat) (done : Nat → Prop) (β : Bet) : Prop := ∀ g,base ≤ g → β g ≠ none → ∃ j,done j ∧ base + 8 * j ≤ g ∧ g < base + 8 * j + 8

theorem stepA_wpOp {C : Ctx} {β : Bet} {Z : Blk} {s s' : FSt} {log log' : Log} {a : Act} {w : World} {i : Nat} {o : Oper} {done done' : Nat → Prop} {K : Act → World → Prop} {Q : Exit → Act → World → Prop} (ho : ops[i]? = some o)
    (h : RelS C β Z s a w) (hd : ∀ o ∈ ops, ∀ d,o.dst = some d → d < C.n) (hpl : ∀ o ∈ ops, ∀ c,o.op ≠ .defer c) (hfr : FreeB base done β) (hi : ¬ done i) (hdd : ∀ j,done j → done' j) (hdi : done' i)
    (hst : stepA dr P md ops base i o s log s' log') (hK : ∀ β' Z' a' w',RelS C β' Z' s' a' w' → FreeB base done' β' → K a' w') : wpOpIn (Fw C.r) 0 P ops Q i K a w := by
  have hdo : ∀ d,o.dst = some d → d < C.n := hd o (Array.mem_of_getElem? ho)
  unfold wpOpIn
  simp only [ho]
  rcases hst with ⟨hw,ef,hdoes,hok,_,rfl,_⟩ | ⟨hw,rfl,_⟩
  · rw [h.wanted hw]
    simp only [if_true]
    refine (h.wp hdo (hpl o (Array.mem_of_getElem? ho)) hdoes (fun g hg hn => ?_) fun β' Z' v w' p hr => hK β' Z' _ _ hr fun g hb hg => ?_)
    · obtain ⟨h1,h2⟩ := hok g hg hn
      cases hβ : β g with
      | none => rfl
      | some B =>
        obtain ⟨j,hj,h3,h4⟩ := hfr g (by omega) (by rw [hβ]; simp)
        have : j = i := by omega
        exact absurd (this ▸ hj) hi
    · rcases p.dom g hg with h1 | h1
      · obtain ⟨j,hj,h3⟩ := hfr g hb h1
        exact ⟨j,hdd j hj,h3⟩
      · exact ⟨i,hdi,hok g h1.1 h1.2⟩
  · rw [h.wanted hw]
    simp only [Bool.false_eq_true,if_false]
    refine ⟨fun _ _ => trivial,?_⟩
    refine hK β Z _ _ ?_ fun g hb hg => ?_
    · have p : PostAt w β Z s.H skipEff undef w β := ⟨Ext.refl β, fun g hg => .inl hg, Fr.refl _ w, .val _, fun g c hg => by simp [skipEff, Eff.ids] at hg, fun g c B hg => by simp [skipEff, Eff.ids] at hg, fun b _ hz => by
          rcases hz with hz | ⟨g,hg,_⟩
          · exact hz
          · simp [skipEff,Eff.ids] at hg,fun hzl b hz => by
          rcases hz with hz | ⟨g,hg,_⟩
          · exact hzl b hz
          · simp [skipEff,Eff.ids] at hg,fun g _ _ _ _ hg => by simp [skipEff,Eff.ids] at hg⟩
      have hZ : Zof Z β skipEff = Z := by funext b; simp [Zof,skipEff,Eff.ids]
      have := h.step hdo p
      rwa [hZ] at this
    · obtain ⟨j,hj,h3⟩ := hfr g hb hg
      exact ⟨j,hdd j hj,h3⟩

theorem wpAny_of_aAny {C : Ctx} {Q : FSt → Prop} {Q' : Exit → Act → World → Prop} (hd : ∀ o ∈ ops, ∀ d,o.dst = some d → d < C.n) (hpl : ∀ o ∈ ops, ∀ c,o.op ≠ .defer c)
    (hQ : ∀ s a w β Z,RelS C β Z s a w → FreeB base (fun j => j < ops.size) β → Q s → Q' .normal a w) : ∀ (fuel : Nat) (listed : Array Bool) (s : FSt) (log : Log) (a : Act) (w : World) (β : Bet) (Z : Blk),listed.size = ops.size →
    RelS C β Z s a w → FreeB base (fun j => listed.getD j false = true) β → aAny dr P md ops base Q fuel listed s log → wpAnyIn (Fw C.r) 0 P md ops Q' fuel listed a w := by
  have fin : ∀ (listed : Array Bool) (β : Bet),listed.size = ops.size → FreeB base (fun j => listed.getD j false = true) β → FreeB base (fun j => j < ops.size) β := by
    intro listed β hl hf g hb hg
    obtain ⟨j,hj,h3⟩ := hf g hb hg
    refine ⟨j,?_,h3⟩
    rcases Nat.lt_or_ge j listed.size with h' | h'
    · exact hl ▸ h'
    · simp [Array.getElem?_eq_none h'] at hj
  intro fuel
  induction fuel with
  | zero => intro listed s log a w β Z hl h hf ha; exact ⟨ha.1,hQ _ _ _ _ _ h (fin _ _ hl hf) ha.2⟩
  | succ fuel ih =>
    intro listed s log a w β Z hl h hf ha
    refine ⟨fun h0 => hQ _ _ _ _ _ h (fin _ _ hl hf) (ha.1 h0),fun i hi => ?_⟩
    obtain ⟨hun,o,ho,_⟩ := mem_ready.1 hi
    obtain ⟨s',log',hst,hK⟩ := ha.2 i hi o ho
    have hlt : i < listed.size := by rw [hl]; exact (Array.getElem?_eq_some_iff.1 ho).1
    refine stepA_wpOp (done' := fun j => (listed.setIfInBounds i true).getD j false = true) ho h hd hpl hf ?_ (fun j hj => getD_set_true hj) (by simp [hlt]) hst fun β' Z' a' w' hr hf' => ih _ _ _ _ _ β' Z' (by simp [hl]) hr hf' hK
    simp [hlt] at hun ⊢
    exact hun

theorem wpOps_of_aLex {C : Ctx} {Q : FSt → Prop} {Q' : Exit → Act → World → Prop} (hd : ∀ o ∈ ops, ∀ d,o.dst = some d → d < C.n) (hpl : ∀ o ∈ ops, ∀ c,o.op ≠ .defer c)
    (hQ : ∀ s a w β Z,RelS C β Z s a w → FreeB base (fun j => j < ops.size) β → Q s → Q' .normal a w) : ∀ (l : List Oper) (k : Nat) (s : FSt) (log : Log) (a : Act) (w : World) (β : Bet) (Z : Blk),(∀ j,l[j]? = ops[k + j]?) → k + l.length = ops.size →
    RelS C β Z s a w → FreeB base (fun j => j < k) β → aLex dr P md ops base Q l k s log → wpOpsIn (Fw C.r) 0 P ops Q' (List.range' k l.length) a w
  | [],k,s,log,a,w, β,Z,hl,hk,h,hf,ha => hQ _ _ _ _ _ h (by simpa [← hk] using hf) ha
  | o :: l,k,s,log,a,w, β,Z,hl,hk,h,hf,ha => by
    have h0 : ops[k]? = some o := by simpa using (hl 0).symm
    obtain ⟨s',log',hst,hK⟩ := ha
    rw [List.length_cons,List.range'_succ,wpOpsIn_cons]
    exact stepA_wpOp (done' := fun j => j < k + 1) h0 h hd hpl hf (by simp) (fun j hj => Nat.lt_succ_of_lt hj) (by simp) hst fun β' Z' a' w' hr hf' =>
      wpOps_of_aLex hd hpl hQ l (k + 1) _ _ _ _ β' Z' (fun j => by have := hl (j + 1); simpa [Nat.add_assoc,Nat.add_comm 1 j] using this) (by simpa [Nat.add_assoc,Nat.add_comm 1] using hk) hr hf' hK

theorem wp_region_lift {C : Ctx} {id : Nat} {draw : Bool} {Q : FSt → Prop} {Q' : Exit → Act → World → Prop} {s : FSt} {a : Act} {w : World} {β : Bet} {Z : Blk} (hm : draw = true → P.follows .mixedOrders = true ∧ Region.lexB .any ops = true)
    (hd : ∀ o ∈ ops, ∀ d,o.dst = some d → d < C.n) (hpl : ∀ o ∈ ops, ∀ c,o.op ≠ .defer c) (hQ : ∀ s a w β Z,RelS C β Z s a w → FreeB base (fun j => j < ops.size) β → Q s → Q' .normal a w)
    (h : RelS C β Z s a w) (hf : ∀ g,base ≤ g → β g = none) (ha : aLex draw P .any ops base Q ops.toList 0 s (fun _ _ => False)) : (Code.region id ops draw).wpIn (Fw C.r) 0 P Q' a w := by
  have hf0 : ∀ done,FreeB base done β := fun done g hg hn => absurd (hf g hg) hn
  cases draw with
  | false =>
    refine wpIn_region ?_
    have := wpOps_of_aLex hd hpl hQ ops.toList 0 s _ a w β Z (by simp) (by simp) h (hf0 _) ha
    simpa [List.range_eq_range'] using this
  | true =>
    obtain ⟨hm1,hB⟩ := hm rfl
    simp only [Region.lexB,Bool.and_eq_true] at hB
    have h' : RelS C β Z s a { w with drawn := w.drawn + 1 } := by
      have f : Fr (fun _ => False) w { w with drawn := w.drawn + 1 } := Fr.drawn _ _ _
      exact ⟨h.size,⟨h.defers.1,fun d hd => (h.defers.2 d hd).mono f (fun _ _ h => h.elim) (fun _ _ h => h)⟩,fun t => (h.env t).mono f (fun _ _ h => h.elim) (Ext.refl β) (fun _ _ h => h),fun g c hc => (h.objs g c hc).mono f (fun _ _ h => h.elim) (fun _ _ h => h) (Ext.refl β) (fun h => h) (fun _ _ => Iff.rfl),h.inj,
        h.fr.trans f (fun _ _ h => h.elim),h.z0,h.old,h.orig,h.ext,h.zlt⟩
    refine wpIn_region_any hm1 (wpAny_of_aAny (dr := true) (base := base) hd hpl hQ _ _ s (fun _ _ => False) a _ β Z (by simp) h' (hf0 _) ?_)
    have := aAny_lex (dr := true) rfl (P := P) (base := base) (Q := Q) (md := .any) ops.toList 0 (Array.replicate ops.size false) s (fun _ _ => False) (by
      intro m o _ hm; 
      rcases Nat.lt_or_ge m ops.size with h' | h'
      · simp [h'] at hm
      · simp [h'] at hm) (by simp) (by simpa using hB.2) ha
    simpa using this
end
end Go.Proofs.YtbncpngjclabhaaGreat.Lift
namespace Go.Proofs.YtbncpngjclabhaaGreat.Lift
open Go Go.RowKit

inductive AOp where
  | mv (x : Operand)
  | pick (c a b : Operand)
  | box (x : Operand)
  | mem (z : List D)
  | build (z : List D) (ps : List (Nat × Nat × Operand))
  | buildSl (sz len : Nat) (z : List D) (ps : List (Nat × Nat × Operand))
  | load1 (a : Operand)
  | loadN (n : Nat) (a : Operand)
  | store (n : Nat) (a v : Operand)
  | nilc (x : Operand)
  | bin (op : BinOp) (x y : Operand)
  | eqb (neg : Bool) (x y : Operand)
  | eqn (neg : Bool) (x y : Operand)
  | eqa (neg : Bool) (ks : List Bool) (x y : Operand)
  | un (op : UnOp) (x : Operand)
  | conv (k : IntKind) (x : Operand)
  | mkfn (f : FuncId) (first caps : List Operand)
  | slS (sz : Nat) (x : Operand) (lo hi : Option Operand)
  | slA (n sz : Nat) (x : Operand) (lo hi : Option Operand)
  | fad (off : Nat) (x : Operand)
  | fld1 (off : Nat) (x : Operand)
  | fldN (off n : Nat) (x : Operand)
  | iadA (len sz : Nat) (x i : Operand)
  | iadS (sz : Nat) (x i : Operand)
  | idx1 (len sz : Nat) (x i : Operand)
  | idxN (len sz : Nat) (x i : Operand)
  | ext (x : Operand) (i : Nat)
  | len_ (x : Operand)
  | lenC (n : Nat)
  | mnx (mx : Bool) (xs : List Operand)
  | app (sz bytes : Nat) (x y : Operand)
  | mksl (sz bytes : Nat) (z : List D) (l c : Operand)
  | call (f : Operand) (args : List Operand)
  | mkmap (r : Option Operand)
  | look (ks : List Bool) (z : D) (ok : Bool) (m k : Operand)
  | mset (ks : List Bool) (m k v : Operand)

/-! ### memory -/
section
variable {P : Program}
theorem add_none (B off n : Nat) : (⟨B,off,none⟩ : Addr).add n = ⟨B,off + n,none⟩ := by
  unfold Addr.add; split
  · rename_i h; subst h; rfl
  · rfl
theorem cell_at {w : World} {B : Nat} {cs : Array Value} {e : TypeId} (h : w.heap[B]? = some (.cells cs e (0,0))) {o : Nat} (ho : o < cs.size) : w.cell? ⟨B,o,none⟩ = some (cs.getD o undef) := by
  simp [World.cell?,h,ho]
theorem setCell_block {w : World} {B : Nat} {cs : Array Value} {e : TypeId} (h : w.heap[B]? = some (.cells cs e (0,0))) (o : Nat) (v : Value) :
    (w.setCell ⟨B,o,none⟩ v).heap[B]? = some (.cells (cs.setIfInBounds o v) e (0,0)) := by
  simp [World.setCell,Array.getElem?_modify,h]
theorem setCell_fr {w : World} {B : Nat} {cs : Array Value} {e : TypeId} (h : w.heap[B]? = some (.cells cs e (0,0))) (o : Nat) (v : Value) : Fr (fun b => b = B) w (w.setCell ⟨B,o,none⟩ v) where
  os := rfl
  tape := rfl
  output := rfl
  size := by simp [World.setCell]
  same := fun b _ hn => by
    have hn' : ¬ B = b := Ne.symm hn
    simp [World.setCell,Array.getElem?_modify,hn']
  knd := fun b _ => by
    by_cases hb : b = B
    · subst hb
      simp [kind?,setCell_block h,h]
    · simp [World.setCell,kind?,Array.getElem?_modify,Ne.symm hb]
theorem run_stores (B : Nat) (e : TypeId) (off : Nat) : ∀ (vs : List Value) (i : Nat) (w : World) (cs : Array Value),w.heap[B]? = some (.cells cs e (0,0)) → off + i + vs.length ≤ cs.size →
    (∀ v ∈ vs,(∀ a,v ≠ .agg a) ∧ (∀ a,v ≠ .tuple a)) → ∃ w' cs',(storeCells ⟨B,off,none⟩ vs i).run P w = .ok () w' ∧ Fr (fun b => b = B) w w' ∧ w'.heap[B]? = some (.cells cs' e (0,0)) ∧ cs'.size = cs.size ∧
      ∀ j,cs'.getD j undef = if off + i ≤ j ∧ j < off + i + vs.length then vs.getD (j - (off + i)) undef else cs.getD j undef
  | [],i,w,cs,h,_,_ => ⟨w,cs,rfl,Fr.refl _ w,h,rfl,fun j => by rw [if_neg (by simp only [List.length_nil]; omega)]⟩
  | v :: vs,i,w,cs,h,hl,hv => by
    simp only [List.length_cons] at hl
    have hc : w.cell? ⟨B,off + i,none⟩ = some (cs.getD (off + i) undef) := cell_at h (by omega)
    have hf : w.frozen? ⟨B,off + i,none⟩ = false := by simp [World.frozen?,h]
    have h1 := setCell_block h (off + i) v
    obtain ⟨w',cs',hr,hfr,hb,hs,hg⟩ := run_stores B e off vs (i + 1) (w.setCell ⟨B,off + i,none⟩ v) _ h1 (by simp; omega) (fun u hu => hv u (List.mem_cons_of_mem _ hu))
    refine ⟨w',cs',?_,(setCell_fr h (off + i) v).trans hfr (fun _ _ h => h),hb,by simpa using hs,fun j => ?_⟩
    · show Sem.run P (do store ((⟨B,off,none⟩ : Addr).add i) v; storeCells ⟨B,off,none⟩ vs (i + 1)) w = _
      rw [Sem.run_bind,add_none]
      have : (store ⟨B,off + i,none⟩ v).run P w = .ok () (w.setCell ⟨B,off + i,none⟩ v) := by
        obtain ⟨ha,ht⟩ := hv v (List.mem_cons_self ..)
        unfold store
        cases v <;> simp_all [Sem.run]
      rw [this]
      exact hr
    · rw [hg]
      by_cases hj : j = off + i
      · subst hj
        rw [if_neg (by omega),if_pos (by simp)]
        have : off + i < cs.size := by omega
        simp [this]
      · by_cases hj2 : off + (i + 1) ≤ j ∧ j < off + (i + 1) + vs.length
        · rw [if_pos hj2,if_pos (by simp only [List.length_cons]; omega)]
          have : j - (off + i) = (j - (off + (i + 1))) + 1 := by omega
          rw [this]
          rfl
        · rw [if_neg hj2,if_neg (by simp only [List.length_cons]; omega)]
          simp [Array.getElem?_setIfInBounds_ne (Ne.symm hj)]
theorem run_loads (w : World) (B off n : Nat) (f : Nat → Value) (h : ∀ j,j < n → w.cell? ⟨B,off + j,none⟩ = some (f j)) :
    (loadCells ⟨B,off,none⟩ n).run P w = .ok ((List.range n).map f).toArray w :=
  run_loadCells (P := P) (w := w) ⟨B,off,none⟩ n f (fun j hj => by rw [add_none]; exact h j hj)
end

/-! ### the shapes of what an operation does -/
section
variable {w w' : World} {β : Bet} {Z : Blk} {H : Heap} {v : Value} {d : D} {rd : List Nat}
theorem post_pure (hr : Rep w β Z v d) (n : Nat) : Post w β Z H ⟨d,rd,[]⟩ v { w with drawn := n } :=
  ⟨β,Ext.refl β,fun _ h => .inl h,Fr.drawn _ w n,hr.mono (Fr.drawn (fun _ => False) w n) (fun _ _ h => h.elim) (Ext.refl β) (fun b _ h => by
    rcases h with h | ⟨g,hg,_⟩
    · exact h
    · simp [Eff.ids] at hg),fun g c hg => by simp [Eff.ids] at hg,fun g c B hg => by simp [Eff.ids] at hg,fun b _ h => by
    rcases h with h | ⟨g,hg,_⟩
    · exact h
    · simp [Eff.ids] at hg,fun hzl b h => by
    rcases h with h | ⟨g,hg,_⟩
    · exact hzl b h
    · simp [Eff.ids] at hg,fun g _ _ _ _ hg => by simp [Eff.ids] at hg⟩
theorem post_same (hr : Rep w β Z v d) : Post w β Z H ⟨d,rd,[]⟩ v w := post_pure hr w.drawn

def ups (kills : List Nat) (id : Nat) (c : List D) : List (Nat × Option (List D)) := kills.map (fun g => (g,none)) ++ [(id,some c)]
theorem ups_ids {kills : List Nat} {id : Nat} {c : List D} : (ups kills id c).map (·.1) = kills ++ [id] := by
  simp [ups,Function.comp_def]
theorem ups_id {kills : List Nat} {id : Nat} {c : List D} (h : id ∉ kills) : upH H (ups kills id c) id = some c := by
  unfold upH ups
  rw [List.find?_append]
  have : (kills.map (fun g => (g,(none : Option (List D))))).find? (·.1 == id) = none := by
    rw [List.find?_eq_none]
    intro x hx
    obtain ⟨g,hg,rfl⟩ := List.mem_map.1 hx
    simp
    exact fun e => h (e ▸ hg)
  rw [this]
  simp
theorem ups_kill {kills : List Nat} {id g : Nat} {c : List D} (h : g ∈ kills) (_ : g ≠ id) : upH H (ups kills id c) g = none := by
  unfold upH ups
  rw [List.find?_append]
  cases hf : (kills.map (fun g => (g,(none : Option (List D))))).find? (·.1 == g) with
  | none =>
    have := List.find?_eq_none.1 hf (g,none) (List.mem_map.2 ⟨g,h,rfl⟩)
    simp at this
  | some x =>
    obtain ⟨g',_,rfl⟩ := List.mem_map.1 (List.mem_of_find?_eq_some hf)
    simp
def setB (β : Bet) (id : Nat) (B : Option Nat) : Bet := fun g => if g = id then B else β g
theorem setB_ext {id : Nat} {B : Option Nat} (h : β id = none) : Ext β (setB β id B) := fun g b hg => by
  unfold setB
  split
  · rename_i e; subst e; rw [h] at hg; cases hg
  · exact hg
theorem setB_id {id : Nat} {B : Option Nat} : setB β id B id = B := by simp [setB]

theorem post_one {id : Nat} {kills : List Nat} {c : List D} {Bo : Option Nat} (hid : id ∉ kills) (hn : H id = none) (hβ : β id = none)
    (hk : ∀ g ∈ kills, ∀ b, β g = some b → Z b) (hfr : Fr (Wr H ⟨d,rd,ups kills id c⟩ β) w w')
    (hB : ∀ B,Bo = some B → w.heap.size ≤ B ∨ (Wr H ⟨d,rd,ups kills id c⟩ β B ∧ Z B))
    (hv : Rep w' (setB β id Bo) (Zof Z (setB β id Bo) ⟨d,rd,ups kills id c⟩) v d)
    (ho : Holds w' (setB β id Bo) (Zof Z (setB β id Bo) ⟨d,rd,ups kills id c⟩) id c) : Post w β Z H ⟨d,rd,ups kills id c⟩ v w' := by
  have hids : ∀ g,g ∈ (⟨d,rd,ups kills id c⟩ : Eff).ids ↔ g ∈ kills ∨ g = id := fun g => by
    unfold Eff.ids; rw [ups_ids]; simp
  have hlive : ∀ g c',g ∈ (⟨d,rd,ups kills id c⟩ : Eff).ids → upH H (ups kills id c) g = some c' → g = id ∧ c' = c := fun g c' hg hc => by
    by_cases he : g = id
    · subst he; rw [ups_id hid] at hc; exact ⟨rfl,(Option.some.inj hc).symm⟩
    · rcases (hids g).1 hg with h | h
      · rw [ups_kill h he] at hc; cases hc
      · exact absurd h he
  refine ⟨setB β id Bo,setB_ext hβ,fun g hg => ?_,hfr,hv,fun g c' hg hc => ?_,fun g c' B hg hc hb => ?_,fun b hb hz => ?_,fun hzl b hz => ?_,fun g g' c1 c2 B hg hg' hc hc' _ _ => ?_⟩
  · by_cases he : g = id
    · subst he; exact .inr ⟨(hids g).2 (.inr rfl),hn⟩
    · exact .inl (by simpa [setB,he] using hg)
  · obtain ⟨rfl,rfl⟩ := hlive g c' hg hc; exact ho
  · obtain ⟨rfl,rfl⟩ := hlive g c' hg hc
    rw [setB_id] at hb
    exact (hB B hb).imp id (·.1)
  · rcases hz with hz | ⟨g,hg,hb'⟩
    · exact hz
    · by_cases he : g = id
      · subst he
        rw [setB_id] at hb'
        rcases hB b hb' with h | h
        · omega
        · exact h.2
      · rcases (hids g).1 hg with h | h
        · exact hk g h b (by simpa [setB,he] using hb')
        · exact absurd h he
  · rcases hz with hz | ⟨g,hg,hb'⟩
    · exact Nat.lt_of_lt_of_le (hzl b hz) hfr.size
    · by_cases he : g = id
      · subst he
        obtain ⟨cs,e,hO⟩ := ho.real hb'
        exact hO.lt
      · rcases (hids g).1 hg with h | h
        · exact Nat.lt_of_lt_of_le (hzl b (hk g h b (by simpa [setB,he] using hb'))) hfr.size
        · exact absurd h he
  · exact (hlive g c1 hg hc).1.trans (hlive g' c2 hg' hc').1.symm

theorem post_new {id : Nat} {kills : List Nat} {c : List D} {cs : Array Value} {e : TypeId} (hid : id ∉ kills) (hn : H id = none) (hβ : β id = none) (hk : ∀ g ∈ kills, ∀ b, β g = some b → Z b)
    (hfit : c.length ≤ cs.size) (hrep : ∀ i (h : i < c.length),Rep w β Z (cs.getD i undef) c[i]) (n : Nat)
    (hv : ∀ w' β' Z', β' id = some w.heap.size → w'.heap.size = w.heap.size + 1 → w'.shape? w.heap.size = some (e,cs.size) → Rep w' β' Z' v d) :
    Post w β Z H ⟨d,rd,ups kills id c⟩ v { w with heap := w.heap.push (.cells cs e),drawn := n } := by
  have hf : ∀ X,Fr X w { w with heap := w.heap.push (.cells cs e),drawn := n } := fun X => (Fr.push X w (.cells cs e)).trans (Fr.drawn X _ n) (fun _ _ h => h)
  have hb : ({ w with heap := w.heap.push (.cells cs e),drawn := n } : World).heap[w.heap.size]? = some (.cells cs e) := by simp
  refine post_one hid hn hβ hk (hf _) (fun B h => .inl (by cases h; exact Nat.le_refl _)) (hv _ _ _ setB_id (by simp) (by simp [World.shape?])) ?_
  refine .inr ⟨w.heap.size,cs,e,setB_id,.inr ⟨id,by unfold Eff.ids; rw [ups_ids]; simp,setB_id⟩,.inl hb,hfit,fun i hi => ?_⟩
  refine (hrep i hi).mono (hf (fun _ => False)) (fun _ _ h => h.elim) (setB_ext hβ) fun b hlt hz => ?_
  rcases hz with hz | ⟨g,hg,hb'⟩
  · exact hz
  · by_cases he : g = id
    · subst he; rw [setB_id] at hb'; cases hb'; omega
    · have : g ∈ kills := by
        unfold Eff.ids at hg; rw [ups_ids] at hg
        simpa [he] using hg
      exact hk g this b (by simpa [setB,he] using hb')
end
end Go.Proofs.YtbncpngjclabhaaGreat.Lift
namespace Go.Proofs.YtbncpngjclabhaaGreat.Lift
open Go Go.RowKit

def splice (c : List D) (off : Nat) (l : List D) : List D := c.take off ++ l ++ c.drop (off + l.length)
def fillD (ρ : Operand → D) : List D → List (Nat × Nat × Operand) → Option (List D)
  | c,[] => some c
  | c,(off,size,x) :: r => if (ρ x).isBot = true ∨ (ρ x).cells.length ≠ size ∨ off + size > c.length then none else fillD ρ (splice c off (ρ x).cells) r
def D.int (n : Int) : D := .val (.int .i64 n)
def D.bool (b : Bool) : D := .val (.bool b)
def abin (op : BinOp) (k : IntKind) (a b : Int) : Option Value := match op with
  | .add => some (.int k (k.wrap (a + b)))
  | .sub => some (.int k (k.wrap (a - b)))
  | .mul => some (.int k (k.wrap (a * b)))
  | .quo => if b = 0 then none else some (.int k (k.wrap (a.tdiv b)))
  | .rem => if b = 0 then none else some (.int k (a.tmod b))
  | .and => some (.int k (k.wrap (BitVec.ofInt k.bits a &&& BitVec.ofInt k.bits b).toNat))
  | .or => some (.int k (k.wrap (BitVec.ofInt k.bits a ||| BitVec.ofInt k.bits b).toNat))
  | .xor => some (.int k (k.wrap (BitVec.ofInt k.bits a ^^^ BitVec.ofInt k.bits b).toNat))
  | .andNot => some (.int k (k.wrap (BitVec.ofInt k.bits a &&& ~~~ BitVec.ofInt k.bits b).toNat))
  | .eql => some (.bool (a == b))
  | .neq => some (.bool (a != b))
  | .lss => some (.bool (a < b))
  | .leq => some (.bool (a ≤ b))
  | .gtr => some (.bool (a > b))
  | .geq => some (.bool (a ≥ b))
  | _ => none
def ash (op : BinOp) (k : IntKind) (a b : Int) : Option Value := match op with
  | .shl => if 0 ≤ b then some (.int k (k.wrap (a * 2 ^ (min b.toNat k.bits)))) else none
  | .shr => if 0 ≤ b then some (.int k (a.fdiv (2 ^ (min b.toNat k.bits)))) else none
  | _ => none
def isSh : BinOp → Bool
  | .shl | .shr => true
  | _ => false
def mn2 (a b : Int) : Int := if b < a then b else a
def mx2 (a b : Int) : Int := if b > a then b else a
def foldI (f : Int → Int → Int) : Int → List D → Option Int
  | a,[] => some a
  | a,.val (.int .i64 b) :: r => foldI f (f a b) r
  | _,_ => none
def opt1 (d : Option D) (rd : List Nat) : Option Eff := d.map fun d => ⟨d,rd,[]⟩
def run1 (H : Heap) : D → Nat → Option (D × List Nat)
  | .ptr g off,j => match H g with
    | some c => (c[off + j]?).map fun d => (d,[g])
    | none => none
  | .at_ l,j => (l[j]?).map fun d => (d,[])
  | _,_ => none
def asI : Option D → Int → Option Int
  | none,n => some n
  | some (.val (.int _ n)),_ => some n
  | _,_ => none
def elems (H : Heap) (sz : Nat) : D → Option (Nat × List D × List Nat)
  | .val (.slice none 0 0) => some (0,[],[])
  | .cap0 => some (0,[],[])
  | .list l => if l.all (·.length == sz) then some (l.length,l.flatten,[]) else none
  | .own g off len sz' => match H g with
    | some c => if sz' = sz ∧ off + len * sz ≤ c.length then some (len,(c.drop off).take (len * sz),[g]) else none
    | none => none
  | .vec g len sz' => match H g with
    | some c => if sz' = sz ∧ len * sz ≤ c.length then some (len,c.take (len * sz),[g]) else none
    | none => none
  | _ => none
def base (H : Heap) (sz : Nat) : D → Option (Nat × List D × List Nat)
  | .val (.slice none 0 0) => some (0,[],[])
  | .cap0 => some (0,[],[])
  | .own g off len sz' => match H g with
    | some c => if off = 0 ∧ sz' = sz ∧ len * sz ≤ c.length then some (len,c.take (len * sz),[g]) else none
    | none => none
  | .vec g len sz' => match H g with
    | some c => if sz' = sz ∧ len * sz ≤ c.length then some (len,c.take (len * sz),[g]) else none
    | none => none
  | _ => none

def scalarEq : D → D → Option Bool
  | .val (.int k a),.val (.int k' b) => if k = k' then some (a == b) else none
  | .val (.bool a),.val (.bool b) => some (a == b)
  | _,_ => none
def eqCells : List D → List D → Option Bool
  | [],[] => some true
  | x :: xs,y :: ys => match scalarEq x y,eqCells xs ys with
    | some a,some b => some (a && b)
    | _,_ => none
  | _,_ => none
def isB : D → Bool
  | .val (.bool _) => true
  | _ => false
/-! ### maps -/
def liftV : Value → D
  | .agg cs => .agg (cs.toList.map .val)
  | v => .val v
def valC : List D → Option (List Value)
  | [] => some []
  | .val v :: r => (valC r).map (v :: ·)
  | _ :: _ => none
def valV : D → Option Value
  | .agg l => (valC l).map fun l => .agg l.toArray
  | .val v => some v
  | _ => none
def mfind : List (Value × Value) → List D → Option (Option Value)
  | [],_ => some none
  | x :: r,c => match x.1 with
    | .agg cs => match eqCells c (cs.toList.map .val) with
      | some true => some (some x.2)
      | some false => mfind r c
      | none => none
    | _ => none
def entsC : List D → Option (List (Value × Value))
  | [.val u] => unV u
  | _ => none
def entsH (H : Heap) (g : Nat) : Option (List (Value × Value)) := match H g with
  | some c => entsC c
  | none => none
def optI : Option D → Bool
  | none => true
  | some (.val (.int _ _)) => true
  | _ => false
def isNew : Option (Option Value) → Bool
  | some none => true
  | _ => false
def lookD (ok : Bool) (z : D) : Option Value → D
  | none => if ok = true then .tup [z,.val (.bool false)] else z
  | some v => if ok = true then .tup [liftV v,.val (.bool true)] else liftV v

def aexec (ρ : Operand → D) (H : Heap) (id : Nat) : AOp → Option Eff
  | .mv x => some ⟨ρ x,[],[]⟩
  | .pick c a b => match ρ c with
    | .val (.bool t) => some ⟨if t then ρ a else ρ b,[],[]⟩
    | _ => none
  | .box x => if (ρ x).isBot = true ∨ (H id).isSome = true then none else some ⟨.ptr id 0,[],[(id,some (ρ x).cells)]⟩
  | .mem z => if (H id).isSome = true then none else some ⟨.ptr id 0,[],[(id,some z)]⟩
  | .build z ps => (fillD ρ z ps).map fun c => ⟨.agg c,[],[]⟩
  | .buildSl sz len z ps => if (H id).isSome = true then none else (fillD ρ z ps).map fun c => ⟨.vec id len sz,[],[(id,some c)]⟩
  | .load1 a => (run1 H (ρ a) 0).map fun x => ⟨x.1,x.2,[]⟩
  | .loadN n a => match ρ a with
    | .ptr g off => match H g with
      | some c => if off + n ≤ c.length then some ⟨.agg ((c.drop off).take n),[g],[]⟩ else none
      | none => none
    | .at_ l => if n ≤ l.length then some ⟨.agg (l.take n),[],[]⟩ else none
    | _ => none
  | .store n a v => match ρ a with
    | .ptr g off => match H g with
      | some c => if (ρ v).isBot = false ∧ (ρ v).cells.length = n ∧ off + n ≤ c.length ∧ (ρ v).cells.all D.leaf = true then some ⟨.val undef,[],[(g,some (splice c off (ρ v).cells))]⟩ else none
      | none => none
    | _ => none
  | .nilc x => match ρ x with
    | .ptr g off => some ⟨.ptr g off,[],[]⟩
    | .at_ l => some ⟨.at_ l,[],[]⟩
    | .fn f k l => some ⟨.fn f k l,[],[]⟩
    | _ => none
  | .bin op x y => match ρ x, ρ y with
    | .val (.int k a),.val (.int k' b) => if isSh op = true then (ash op k a b).map fun v => ⟨.val v,[],[]⟩ else if k = k' then (abin op k a b).map fun v => ⟨.val v,[],[]⟩ else none
    | _,_ => none
  | .eqb neg x y => match ρ x, ρ y with
    | .val (.bool a),.val (.bool b) => some ⟨.val (.bool ((a == b) != neg)),[],[]⟩
    | _,_ => none
  | .eqn neg x y => match ρ x, ρ y with
    | .val (.slice none 0 0),.val (.slice none 0 0) => some ⟨.val (.bool (true != neg)),[],[]⟩
    | .own _ _ _ _,.val (.slice none 0 0) => some ⟨.val (.bool (false != neg)),[],[]⟩
    | .vec _ n _,.val (.slice none 0 0) => if 0 < n then some ⟨.val (.bool (false != neg)),[],[]⟩ else none
    | .list l,.val (.slice none 0 0) => if 0 < l.length then some ⟨.val (.bool (false != neg)),[],[]⟩ else none
    | _,_ => none
  | .eqa neg ks x y => if (ρ x).isAgg = true ∧ (ρ y).isAgg = true ∧ (ρ x).cells.map isB = ks then (eqCells (ρ x).cells (ρ y).cells).map fun b => ⟨.val (.bool (b != neg)),[],[]⟩ else none
  | .un op x => match op, ρ x with
    | .neg,.val (.int k n) => some ⟨.val (.int k (k.wrap (0 - n))),[],[]⟩
    | .not,.val (.bool b) => some ⟨.val (.bool !b),[],[]⟩
    | _,_ => none
  | .conv k x => match ρ x with
    | .val (.int _ n) => some ⟨.val (.int k (k.wrap n)),[],[]⟩
    | _ => none
  | .mkfn f first caps => some ⟨.fn f (first.map ρ) (caps.map ρ),[],[]⟩
  | .slS sz x lo hi => match ρ x with
    | .list l => match asI (lo.map ρ) 0,asI (hi.map ρ) l.length with
      | some a,some b => if 0 ≤ a ∧ a ≤ b ∧ b ≤ l.length ∧ l.all (·.length == sz) = true then some ⟨.list ((l.drop a.toNat).take (b - a).toNat),[],[]⟩ else none
      | _,_ => none
    | .vec g n sz' => match asI (lo.map ρ) 0,asI (hi.map ρ) n with
      | some a,some b => if 0 ≤ a ∧ a ≤ b ∧ b ≤ n ∧ sz' = sz ∧ (lo = none ∨ a < b) then
          (if lo = none then some ⟨.vec g b.toNat sz,[],[]⟩ else some ⟨.own g (a.toNat * sz) (b - a).toNat sz,[],[]⟩) else none
      | _,_ => none
    | _ => none
  | .slA n sz x lo hi => match ρ x with
    | .ptr g off => match asI (lo.map ρ) 0,asI (hi.map ρ) n,H g with
      | some a,some b,some c => if 0 ≤ a ∧ a ≤ b ∧ b ≤ n ∧ off + n * sz ≤ c.length ∧ (lo = none ∨ a < b) then some ⟨.own g (off + a.toNat * sz) (b - a).toNat sz,[g],[]⟩ else none
      | _,_,_ => none
    | _ => none
  | .fad off x => match ρ x with
    | .ptr g o => some ⟨.ptr g (o + off),[],[]⟩
    | .at_ l => some ⟨.at_ (l.drop off),[],[]⟩
    | _ => none
  | .fld1 off x => if (ρ x).isAgg = true then opt1 ((ρ x).cells[off]?) [] else none
  | .fldN off n x => if (ρ x).isAgg = true ∧ off + n ≤ (ρ x).cells.length then some ⟨.agg (((ρ x).cells.drop off).take n),[],[]⟩ else none
  | .iadA len sz x i => match ρ x, ρ i with
    | .ptr g off,.val (.int _ n) => if 0 ≤ n ∧ n < len then some ⟨.ptr g (off + n.toNat * sz),[],[]⟩ else none
    | .at_ l,.val (.int _ n) => if 0 ≤ n ∧ n < len then some ⟨.at_ (l.drop (n.toNat * sz)),[],[]⟩ else none
    | _,_ => none
  | .iadS sz x i => match ρ x, ρ i with
    | .list l,.val (.int _ n) => if 0 ≤ n ∧ l.all (·.length == sz) = true then opt1 ((l[n.toNat]?).map .at_) [] else none
    | .own g off len sz',.val (.int _ n) => if 0 ≤ n ∧ n < len ∧ sz' = sz then some ⟨.ptr g (off + n.toNat * sz),[],[]⟩ else none
    | .vec g len sz',.val (.int _ n) => if 0 ≤ n ∧ n < len ∧ sz' = sz then some ⟨.ptr g (n.toNat * sz),[],[]⟩ else none
    | _,_ => none
  | .idx1 len sz x i => match ρ i with
    | .val (.int _ n) => if (ρ x).isAgg = true ∧ 0 ≤ n ∧ n < len then opt1 ((ρ x).cells[n.toNat * sz]?) [] else none
    | _ => none
  | .idxN len sz x i => match ρ i with
    | .val (.int _ n) => if (ρ x).isAgg = true ∧ 0 ≤ n ∧ n < len ∧ n.toNat * sz + sz ≤ (ρ x).cells.length then some ⟨.agg (((ρ x).cells.drop (n.toNat * sz)).take sz),[],[]⟩ else none
    | _ => none
  | .ext x i => match ρ x with
    | .tup l => opt1 (l[i]?) []
    | _ => none
  | .len_ x => match ρ x with
    | .list l => some ⟨.val (.int .i64 l.length),[],[]⟩
    | .own _ _ n _ => some ⟨.val (.int .i64 n),[],[]⟩
    | .vec _ n _ => some ⟨.val (.int .i64 n),[],[]⟩
    | .cap0 => some ⟨.val (.int .i64 0),[],[]⟩
    | .val (.slice _ n _) => some ⟨.val (.int .i64 n),[],[]⟩
    | _ => none
  | .lenC n => some ⟨.val (.int .i64 n),[],[]⟩
  | .mnx mx xs => match xs.map ρ with
    | .val (.int .i64 a) :: r => (foldI (if mx then mx2 else mn2) a r).map fun n => ⟨.val (.int .i64 n),[],[]⟩
    | _ => none
  | .app sz bytes x y => match base H sz (ρ x),elems H sz (ρ y) with
    | some (n,c,k),some (m,c',rd) => if (n + m) * 2 * bytes ≤ 2 ^ 48 ∧ n + m < 2 ^ 62 ∧ (H id).isSome = false ∧ c'.all D.leaf = true then some ⟨.vec id (n + m) sz,rd,ups k id (c ++ c')⟩ else none
    | _,_ => none
  | .mksl sz bytes z l c => match ρ l, ρ c with
    | .val (.int _ a),.val (.int _ b) => if a = b ∧ 0 ≤ a ∧ a * bytes ≤ 2 ^ 48 ∧ a < 2 ^ 62 ∧ (H id).isSome = false then some ⟨.vec id a.toNat sz,[],[(id,some (List.replicate a.toNat z).flatten)]⟩ else none
    | _,_ => none
  | .call _ _ => none
  | .mkmap r => if (H id).isSome = false ∧ optI (r.map ρ) = true then some ⟨.mp id,[],[(id,some [.val (mpV [])])]⟩ else none
  | .look ks z ok m k => match ρ m with
    | .mp g => match entsH H g with
      | some l => if (ρ k).isAgg = true ∧ (ρ k).cells.map isB = ks then (mfind l (ρ k).cells).map fun r => ⟨lookD ok z r,[g],[]⟩ else none
      | none => none
    | _ => none
  | .mset ks m k v => match ρ m with
    | .mp g => match entsH H g,valV (ρ k),valV (ρ v) with
      | some l,some kv,some vv => if (ρ k).isAgg = true ∧ (ρ k).cells.map isB = ks ∧ isNew (mfind l (ρ k).cells) = true then some ⟨.val undef,[],[(g,some [.val (mpV (l ++ [(kv,vv)]))])]⟩ else none
      | _,_,_ => none
    | _ => none
end Go.Proofs.YtbncpngjclabhaaGreat.Lift
namespace Go.Proofs.YtbncpngjclabhaaGreat.Lift
open Go Go.RowKit

section
variable {P : Program} {o : Oper} {ρ : Operand → D} {H : Heap} {id : Nat} {ef : Eff}

theorem does_mv {x : Operand} (ho : o.op = .move x ∨ o.op = .assign x) (he : aexec ρ H id (.mv x) = some ef) : Does P o ρ H ef := by
  intro w ev β Z hev _
  cases he
  rcases ho with ho | ho
  · have : execOp ev o = pure (.value (ev x)) := by simp only [execOp,ho]
    rw [this]
    exact post_same (hev x (by simp [ho,Op.operands]))
  · have : execOp ev o = pure (.value (ev x)) := by simp only [execOp,ho]
    rw [this]
    exact post_same (hev x (by simp [ho,Op.operands]))
theorem does_pick {c a b : Operand} (ho : o.op = .pick c a b) (he : aexec ρ H id (.pick c a b) = some ef) : Does P o ρ H ef := by
  intro w ev β Z hev _
  simp only [aexec] at he
  split at he
  · rename_i t hc
    cases he
    have h1 := hev c (by simp [ho,Op.operands])
    rw [hc] at h1
    have h2 := hev a (by simp [ho,Op.operands])
    have h3 := hev b (by simp [ho,Op.operands])
    have : (execOp ev o).run P w = .ok (.value (if t then ev a else ev b)) w := by
      simp only [execOp,ho,← h1.val_eq,asBool,Sem.run_bind,Sem.run_pure,Result.andThen_ok]
    rw [this]
    cases t
    · exact post_same h3
    · exact post_same h2
  · cases he
theorem freshOf {w : World} {β : Bet} {Z : Blk} (hp : PreOp w β Z H ef) {g : Nat} (hg : g ∈ ef.ids) (hn : (H g).isSome = false) : H g = none ∧ β g = none := by
  have h1 : H g = none := by simpa using hn
  exact ⟨h1,hp.fresh g hg h1⟩
theorem does_box {t : TypeId} {x : Operand} (ho : o.op = .box t x) (he : aexec ρ H id (.box x) = some ef) : Does P o ρ H ef := by
  intro w ev β Z hev hp
  simp only [aexec] at he
  split at he
  · cases he
  · rename_i hc
    cases he
    have hb : (ρ x).isBot = false := by cases h : (ρ x).isBot <;> simp_all
    have hs : (H id).isSome = false := by cases h : (H id).isSome <;> simp_all
    obtain ⟨hn,hβ⟩ := freshOf hp (g := id) (by simp [Eff.ids]) hs
    obtain ⟨h1,h2⟩ := (hev x (by simp [ho,Op.operands])).cells hb
    have : (execOp ev o).run P w = .ok (.value (.pointer (some ⟨w.heap.size,0,none⟩))) { w with heap := w.heap.push (.cells (ev x).cells t) } := by
      simp only [execOp,ho,Instr.box,newVar,newRow,Sem.run_bind,run_newObj,Sem.run_pure,Result.andThen_ok]
    rw [this]
    exact post_new (kills := []) (by simp) hn hβ (by simp) (by omega) h2 w.drawn (fun w' β' Z' hb' _ hs => .ptr id 0 _ _ _ hb' hs)
theorem does_mem {t : TypeId} {i : TypeInfo} {z : Value} (ho : o.op = .alloc t) (hi : P.info? t = some i) (hz : i.zero = some z) (he : aexec ρ H id (.mem (z.cells.toList.map .val)) = some ef) : Does P o ρ H ef := by
  intro w ev β Z hev hp
  simp only [aexec] at he
  split at he
  · cases he
  · rename_i hc
    cases he
    have hs : (H id).isSome = false := by cases h : (H id).isSome <;> simp_all
    obtain ⟨hn,hβ⟩ := freshOf hp (g := id) (by simp [Eff.ids]) hs
    have : (execOp ev o).run P w = .ok (.value (.pointer (some ⟨w.heap.size,0,none⟩))) { w with heap := w.heap.push (.cells z.cells t) } := by
      simp only [execOp,ho,Instr.alloc,zeroValue,run_typeInfo w hi,hz,newVar,newRow,Sem.run_bind,run_newObj,Sem.run_pure,Result.andThen_ok]
    rw [this]
    refine post_new (kills := []) (by simp) hn hβ (by simp) (by simp) (fun j hj => ?_) w.drawn (fun w' β' Z' hb' _ hs => .ptr id 0 _ _ _ hb' hs)
    have hj' : j < z.cells.size := by simpa using hj
    simp only [List.getElem_map,Array.getElem_toList]
    rw [show z.cells.getD j undef = z.cells[j] by simp [hj']]
    exact .val _

/-! ### parts laid into cells -/
theorem splice_len {c : List D} {off : Nat} {l : List D} (h : off + l.length ≤ c.length) : (splice c off l).length = c.length := by
  unfold splice; simp; omega
theorem splice_get {c : List D} {off : Nat} {l : List D} (h : off + l.length ≤ c.length) (j : Nat) (hj : j < (splice c off l).length) :
    (splice c off l)[j] = if hh : off ≤ j ∧ j < off + l.length then l[j - off]'(by omega) else c[j]'(by rw [splice_len h] at hj; exact hj) := by
  have hj2 : j < c.length := by rw [splice_len h] at hj; exact hj
  have key : ∀ hj' : j < (c.take off ++ l ++ c.drop (off + l.length)).length,(c.take off ++ l ++ c.drop (off + l.length))[j]'hj' = if hh : off ≤ j ∧ j < off + l.length then l[j - off]'(by omega) else c[j] := by
    intro hj'
    by_cases h1 : j < off
    · rw [dif_neg (by omega),List.getElem_append_left (by simp; omega),List.getElem_append_left (by simp; omega),List.getElem_take]
    · by_cases h2 : j < off + l.length
      · rw [dif_pos ⟨by omega,h2⟩,List.getElem_append_left (by simp; omega),List.getElem_append_right (by simp; omega)]
        congr 1
        simp; omega
      · rw [dif_neg (by omega),List.getElem_append_right (by simp; omega)]
        simp only [List.length_append,List.length_take,List.getElem_drop]
        congr 1
        omega
  exact key hj
def RepL (w : World) (β : Bet) (Z : Blk) (cs : Array Value) (c : List D) : Prop := cs.size = c.length ∧ ∀ i (h : i < c.length),Rep w β Z (cs.getD i undef) c[i]
theorem foldl_set (off : Nat) : ∀ (l : List Value) (k : Nat) (cs : Array Value),off + k + l.length ≤ cs.size →
    ((l.zipIdx k).foldl (fun cs (x : Value × Nat) => cs.setIfInBounds (off + x.2) x.1) cs).size = cs.size ∧
    ∀ j,((l.zipIdx k).foldl (fun cs (x : Value × Nat) => cs.setIfInBounds (off + x.2) x.1) cs).getD j undef = if off + k ≤ j ∧ j < off + k + l.length then l.getD (j - (off + k)) undef else cs.getD j undef
  | [],k,cs,h => ⟨rfl,fun j => by rw [if_neg (by simp only [List.length_nil]; omega)]; rfl⟩
  | v :: l,k,cs,h => by
    simp only [List.length_cons] at h
    obtain ⟨h1,h2⟩ := foldl_set off l (k + 1) (cs.setIfInBounds (off + k) v) (by simp; omega)
    simp only [List.zipIdx_cons,List.foldl_cons]
    refine ⟨by rw [h1]; simp,fun j => ?_⟩
    rw [h2]
    by_cases hj : j = off + k
    · subst hj
      rw [if_neg (by omega),if_pos (by simp only [List.length_cons]; omega)]
      have : off + k < cs.size := by omega
      simp [this]
    · by_cases hj2 : off + (k + 1) ≤ j ∧ j < off + (k + 1) + l.length
      · rw [if_pos hj2,if_pos (by simp only [List.length_cons]; omega)]
        have : j - (off + k) = (j - (off + (k + 1))) + 1 := by omega
        rw [this]
        rfl
      · rw [if_neg hj2,if_neg (by simp only [List.length_cons]; omega)]
        simp [Array.getElem?_setIfInBounds_ne (Ne.symm hj)]
theorem fill_sound {w : World} {β : Bet} {Z : Blk} {ev : Operand → Value} (place : Nat → Option (Nat × Nat)) : ∀ (parts : List (Nat × Operand)) (ps : List (Nat × Nat × Operand)) (cs : Array Value) (c c' : List D),RepL w β Z cs c →
    (∀ x ∈ parts.map (·.2),Rep w β Z (ev x) (ρ x)) → parts.mapM (fun (p : Nat × Operand) => (place p.1).map fun q => (q.1,q.2,p.2)) = some ps → fillD ρ c ps = some c' →
    ∃ cs',Instr.fill place cs (parts.map fun (i,x) => (i,ev x)) = some cs' ∧ RepL w β Z cs' c'
  | [],ps,cs,c,c',h,_,hm,hf => by
    simp at hm
    subst hm
    simp only [fillD,Option.some.injEq] at hf
    subst hf
    exact ⟨cs,rfl,h⟩
  | (i,x) :: parts,ps,cs,c,c',h,hr,hm,hf => by
    rw [List.mapM_cons] at hm
    simp only [bind,Option.bind_eq_some_iff,pure,Option.some.injEq] at hm
    obtain ⟨q,hq,ps',hps,rfl⟩ := hm
    simp only [Option.map_eq_some_iff] at hq
    obtain ⟨⟨off,size⟩,hpl,rfl⟩ := hq
    simp only [fillD] at hf
    split at hf
    · cases hf
    · rename_i hc
      simp only [not_or] at hc
      obtain ⟨hb,hs,hl⟩ := hc
      have hs : (ρ x).cells.length = size := by omega
      have hl : off + size ≤ c.length := by omega
      have hb : (ρ x).isBot = false := by simpa using hb
      obtain ⟨hv,hvr⟩ := (hr x (by simp)).cells hb
      have hv' : (ev x).cells.size = size := by omega
      have hcs : off + size ≤ cs.size := by rw [h.1]; exact hl
      obtain ⟨z1,z2⟩ := foldl_set off (ev x).cells.toList 0 cs (by simp; omega)
      obtain ⟨cs',he,hrep⟩ := fill_sound place parts ps' ((ev x).cells.zipIdx.foldl (fun cs (c,j) => cs.setIfInBounds (off + j) c) cs) _ c' (by
        have hz : ((ev x).cells.zipIdx.foldl (fun cs (c,j) => cs.setIfInBounds (off + j) c) cs) = (((ev x).cells.toList.zipIdx 0).foldl (fun cs (x : Value × Nat) => cs.setIfInBounds (off + x.2) x.1) cs) := by
          rw [← Array.foldl_toList,Array.toList_zipIdx]
        rw [hz]
        refine ⟨by rw [z1,splice_len (by omega)]; exact h.1,fun j hj => ?_⟩
        rw [z2,splice_get (by omega)]
        have hj2 : j < c.length := by rw [splice_len (by omega)] at hj; exact hj
        by_cases hin : off ≤ j ∧ j < off + (ρ x).cells.length
        · rw [dif_pos hin,if_pos (by simp; omega)]
          have := hvr (j - off) (by omega)
          have hlt : j - off < (ev x).cells.size := by omega
          simp [hlt] at this ⊢
          exact this
        · rw [dif_neg hin,if_neg (by simp; omega)]
          exact h.2 j hj2) (fun y hy => hr y (by simp at hy ⊢; exact .inr hy)) hps hf
      refine ⟨cs',?_,hrep⟩
      simp only [List.map_cons,Instr.fill,hpl]
      have hcond : ¬ ((decide ((ev x).cells.size ≠ size) || decide (off + (ev x).cells.size > cs.size)) = true) := by simp; omega
      rw [if_neg hcond]
      exact he
end
end Go.Proofs.YtbncpngjclabhaaGreat.Lift
namespace Go.Proofs.YtbncpngjclabhaaGreat.Lift
open Go Go.RowKit

section
variable {P : Program} {o : Oper} {ρ : Operand → D} {H : Heap} {id : Nat} {ef : Eff}

theorem does_build_struct {t : TypeId} {parts : Array (Nat × Operand)} {i : TypeInfo} {z : Value} {fields : Array Field} {ps : List (Nat × Nat × Operand)} (ho : o.op = .build t parts) (hi : P.info? t = some i) (hz : i.zero = some z)
    (hu : P.underlying t = some (.struct fields)) (hall : ∀ f ∈ fields.toList, ∃ j,P.info? f.type = some j)
    (hps : parts.toList.mapM (fun (p : Nat × Operand) => ((fields[p.1]?).map fun f => (f.offset,P.cellsOf f.type)).map fun q => (q.1,q.2,p.2)) = some ps)
    (he : aexec ρ H id (.build (z.cells.toList.map .val) ps) = some ef) : Does P o ρ H ef := by
  intro w ev β Z hev hp
  simp only [aexec,Option.map_eq_some_iff] at he
  obtain ⟨c,hc,rfl⟩ := he
  have hzr : RepL w β Z z.cells (z.cells.toList.map .val) := ⟨by simp,fun j hj => by
    have hj' : j < z.cells.size := by simpa using hj
    simp only [List.getElem_map,Array.getElem_toList]
    rw [show z.cells.getD j undef = z.cells[j] by simp [hj']]
    exact .val _⟩
  have hpl : (fields.mapM fun f => do pure (f.offset,← sizeOf f.type) : Sem (Array (Nat × Nat))).run P w = .ok (fields.map fun f => (f.offset,P.cellsOf f.type)) w := by
    rw [Array.mapM_eq_mapM_toList]
    have : ∀ (l : List Field),(∀ f ∈ l, ∃ j,P.info? f.type = some j) → (l.mapM fun f => do pure (f.offset,← sizeOf f.type) : Sem (List (Nat × Nat))).run P w = .ok (l.map fun f => (f.offset,P.cellsOf f.type)) w := by
      intro l
      induction l with
      | nil => intro _; rfl
      | cons f l ih =>
        intro hl
        obtain ⟨j,hj⟩ := hl f (by simp)
        rw [List.mapM_cons]
        simp only [Sem.run_bind,run_sizeOf w hj,Result.andThen_ok,Sem.run_pure,ih fun g hg => hl g (by simp [hg]),List.map_cons]
    simp only [Sem.run_map,this _ hall,Result.andThen_ok]
    rw [← Array.toList_map,Array.toArray_toList]
  obtain ⟨cs',h1,h2⟩ := fill_sound (ev := ev) (fun i => (fields.map fun f => (f.offset,P.cellsOf f.type))[i]?) parts.toList ps z.cells _ c hzr (fun x hx => hev x (by simp [ho,Op.operands] at hx ⊢; exact hx)) (by simpa using hps) hc
  have : (execOp ev o).run P w = .ok (.value (.agg cs')) w := by
    simp only [execOp,ho,Instr.build,zeroValue,Sem.run_bind,run_typeInfo w hi,hz,Sem.run_pure,Result.andThen_ok,run_underlying hu,hpl]
    rw [show (Array.map (fun x => (x.1,ev x.2)) parts).toList = parts.toList.map (fun x => (x.1,ev x.2)) by simp]
    simp only [h1,Sem.run_pure,Result.andThen_ok]
  rw [this]
  exact post_same (.agg _ _ h2.1 h2.2)
theorem does_build_array {t e : TypeId} {n : Nat} {parts : Array (Nat × Operand)} {i j : TypeInfo} {z : Value} {ps : List (Nat × Nat × Operand)} (ho : o.op = .build t parts) (hi : P.info? t = some i) (hz : i.zero = some z)
    (hu : P.underlying t = some (.array n e)) (hj : P.info? e = some j)
    (hps : parts.toList.mapM (fun (p : Nat × Operand) => (some (p.1 * P.cellsOf e,P.cellsOf e)).map fun q => (q.1,q.2,p.2)) = some ps)
    (he : aexec ρ H id (.build (z.cells.toList.map .val) ps) = some ef) : Does P o ρ H ef := by
  intro w ev β Z hev hp
  simp only [aexec,Option.map_eq_some_iff] at he
  obtain ⟨c,hc,rfl⟩ := he
  have hzr : RepL w β Z z.cells (z.cells.toList.map .val) := ⟨by simp,fun j hj => by
    have hj' : j < z.cells.size := by simpa using hj
    simp only [List.getElem_map,Array.getElem_toList]
    rw [show z.cells.getD j undef = z.cells[j] by simp [hj']]
    exact .val _⟩
  obtain ⟨cs',h1,h2⟩ := fill_sound (ev := ev) (fun i => some (i * P.cellsOf e,P.cellsOf e)) parts.toList ps z.cells _ c hzr (fun x hx => hev x (by simp [ho,Op.operands] at hx ⊢; exact hx)) (by simpa using hps) hc
  have : (execOp ev o).run P w = .ok (.value (.agg cs')) w := by
    simp only [execOp,ho,Instr.build,zeroValue,Sem.run_bind,run_typeInfo w hi,hz,Sem.run_pure,Result.andThen_ok,run_underlying hu,run_sizeOf w hj]
    rw [show (Array.map (fun x => (x.1,ev x.2)) parts).toList = parts.toList.map (fun x => (x.1,ev x.2)) by simp]
    simp only [h1,Sem.run_pure,Result.andThen_ok]
  rw [this]
  exact post_same (.agg _ _ h2.1 h2.2)
theorem zeros_rep {w : World} {β : Bet} {Z : Blk} (zc : Array Value) (n : Nat) : RepL w β Z ((Array.range n).map (zc[· % zc.size]!)) ((List.range n).map fun k => .val (zc[k % zc.size]!)) := by
  refine ⟨by simp,fun j hj => ?_⟩
  have hj' : j < n := by simpa using hj
  simp [hj']
  exact .val _
theorem does_buildSl {t e : TypeId} {len : Nat} {parts : Array (Nat × Operand)} {j : TypeInfo} {z : Value} {ps : List (Nat × Nat × Operand)} (ho : o.op = .buildSlice t len parts)
    (hu : P.underlying t = some (.slice e)) (hj : P.info? e = some j) (hz : j.zero = some z) (hlen : len * P.cellsOf e ≤ 2 ^ 24)
    (hps : parts.toList.mapM (fun (p : Nat × Operand) => (some (p.1 * P.cellsOf e,P.cellsOf e)).map fun q => (q.1,q.2,p.2)) = some ps)
    (he : aexec ρ H id (.buildSl (P.cellsOf e) len ((List.range (len * P.cellsOf e)).map fun k => .val (z.cells[k % z.cells.size]!)) ps) = some ef) : Does P o ρ H ef := by
  intro w ev β Z hev hp
  simp only [aexec] at he
  split at he
  · cases he
  · rename_i hs
    simp only [Option.map_eq_some_iff] at he
    obtain ⟨c,hc,rfl⟩ := he
    obtain ⟨hn,hβ⟩ := freshOf hp (g := id) (by simp [Eff.ids]) (by simpa using hs)
    obtain ⟨cs',h1,h2⟩ := fill_sound (ev := ev) (fun i => some (i * P.cellsOf e,P.cellsOf e)) parts.toList ps _ _ c (zeros_rep (w := w) (β := β) (Z := Z) z.cells (len * P.cellsOf e)) (fun x hx => hev x (by simp [ho,Op.operands] at hx ⊢; exact hx)) (by simpa using hps) hc
    have hcs : cs'.size = len * P.cellsOf e := by
      have hfl : ∀ (ps : List (Nat × Nat × Operand)) (c c' : List D),fillD ρ c ps = some c' → c'.length = c.length := by
        intro ps
        induction ps with
        | nil => intro c c' h; simp only [fillD,Option.some.injEq] at h; rw [h]
        | cons p ps ih =>
          intro c c' h
          obtain ⟨off,size,x⟩ := p
          simp only [fillD] at h
          split at h
          · cases h
          · rename_i hh
            simp only [not_or] at hh
            rw [ih _ _ h,splice_len (by omega)]
      rw [h2.1,hfl _ _ _ hc]; simp
    have : (execOp ev o).run P w = .ok (.value (.slice (some ⟨w.heap.size,0,none⟩) len len)) { w with heap := w.heap.push (.cells cs' e) } := by
      have hlen' : ¬ (len * P.cellsOf e > 2 ^ 24) := by omega
      simp only [execOp,ho,Instr.buildSlice,Sem.run_bind,run_underlying hu,Result.andThen_ok,run_sizeOf w hj,if_neg hlen']
      rw [show (Array.map (fun x => (x.1,ev x.2)) parts).toList = parts.toList.map (fun x => (x.1,ev x.2)) by simp]
      by_cases h0 : len * P.cellsOf e = 0
      · have e0 : (Array.range (len * P.cellsOf e)).map ((#[] : Array Value)[· % (#[] : Array Value).size]!) = (Array.range (len * P.cellsOf e)).map (z.cells[· % z.cells.size]!) := by rw [h0]; simp
        simp only [if_pos h0,Sem.run_bind,Sem.run_pure,Result.andThen_ok,e0]
        simp only [h1,newRow,Sem.run_bind,run_newObj,Sem.run_pure,Result.andThen_ok]
      · simp only [if_neg h0,zeroValue,Sem.run_bind,run_typeInfo w hj,hz,Sem.run_pure,Result.andThen_ok]
        simp only [h1,newRow,Sem.run_bind,run_newObj,Sem.run_pure,Result.andThen_ok]
    rw [this]
    exact post_new (kills := []) (by simp) hn hβ (by simp) (by rw [h2.1]; exact Nat.le_refl _) h2.2 w.drawn (fun w' β' Z' hb' hsz hsh => .vec id len _ _ len e _ hb' (by omega) (Nat.le_refl _) hsh (by omega))
end
end Go.Proofs.YtbncpngjclabhaaGreat.Lift
