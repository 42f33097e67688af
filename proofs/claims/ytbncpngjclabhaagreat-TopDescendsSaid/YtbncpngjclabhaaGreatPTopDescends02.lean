/- Texts of the law TopDescends, part 2. No conditions. -/
import Derived.Test.YtbncpngjclabhaaGreatPTopDescends01
import Derived.LoopNIn
import Derived.RangeFuncRecord
import Derived.ProofKit
import Derived.OpenShut
import Derived.DataReads
import Derived.ChangeSame
import Derived.RangeFuncNested
set_option linter.unusedSimpArgs false
set_option linter.unusedVariables false
set_option maxRecDepth 100000
set_option maxHeartbeats 16000000
/- Contracts on abstract values, and the walk of a body. No conditions. -/
namespace Go.Proofs.YtbncpngjclabhaaGreat.Lift
open Go Go.RowKit

abbrev Env := List (Nat × D)
abbrev Hp := List (Nat × List D)
abbrev Ups := List (Nat × Option (List D))

def callOK (P : Program) (f : FuncId) : Prop := ∃ fn,P.funcs[f]? = some fn ∧ fn.name ≠ "runtime.NumGoroutine" ∧ fn.body.isSome = true
def AC (P : Program) (f : FuncId) (args : List D) (h : Hp) (up : Ups) (d : D) : Prop :=
  callOK P f ∧ ∀ (w : World) (vs : Array Value) (β : Bet) (Z : Blk) (H : Heap),vs.size = args.length → (∀ i (hi : i < args.length),Rep w β Z (vs.getD i undef) args[i]) →
    (∀ x ∈ h,H x.1 = some x.2) → (∀ g ∈ up.map (·.1),g ∉ h.map (·.1) → H g = none) → PreOp w β Z H ⟨d,h.map (·.1),up⟩ → Calls P f vs w fun e w' => ∃ v,e = .returned v ∧ Post w β Z H ⟨d,h.map (·.1),up⟩ v w'

/-! ### what may be handed on for what -/
inductive Vw (H : Heap) (V : List Nat) : D → D → Prop
  | refl (d : D) : Vw H V d d
  | bot (d : D) : Vw H V d .bot
  | nil : Vw H V (.val (.slice none 0 0)) (.list [])
  | cap0 : Vw H V .cap0 (.list [])
  | nilc : Vw H V (.val (.slice none 0 0)) .cap0
  | nilv (g sz : Nat) : Vw H V (.val (.slice none 0 0)) (.vec g 0 sz)
  | cap0v (g sz : Nat) : Vw H V .cap0 (.vec g 0 sz)
  | vec (g n sz : Nat) (c : List D) (l : List (List D)) : g ∈ V → H g = some c → n * sz ≤ c.length → (∀ e ∈ l,e.length = sz) → l.length = n → l.flatten = c.take (n * sz) → (∀ d ∈ c,In (fun _ => False) d) → Vw H V (.vec g n sz) (.list l)
  | own (g off n sz : Nat) (c : List D) (l : List (List D)) : g ∈ V → H g = some c → off + n * sz ≤ c.length → (∀ e ∈ l,e.length = sz) → l.length = n → l.flatten = (c.drop off).take (n * sz) → (∀ d ∈ c,In (fun _ => False) d) → Vw H V (.own g off n sz) (.list l)
  | ptr (g off : Nat) (c : List D) : g ∈ V → H g = some c → off < c.length → (∀ d ∈ c,In (fun _ => False) d) → Vw H V (.ptr g off) (.at_ (c.drop off))
  | agg (k l : List D) : k.length = l.length → (∀ i (h : i < k.length) (h' : i < l.length),Vw H V k[i] l[i]) → Vw H V (.agg k) (.agg l)
  | tup (k l : List D) : k.length = l.length → (∀ i (h : i < k.length) (h' : i < l.length),Vw H V k[i] l[i]) → Vw H V (.tup k) (.tup l)
  | fn (f : FuncId) (k l k' l' : List D) : k.length = k'.length → (∀ i (h : i < k.length) (h' : i < k'.length),Vw H V k[i] k'[i]) → l.length = l'.length → (∀ i (h : i < l.length) (h' : i < l'.length),Vw H V l[i] l'[i]) → Vw H V (.fn f k l) (.fn f k' l')
  | yref (g : Nat) (r : Loop) (k : List D) : Vw H V (.yld g r k) (.yref g)
  | ptrN (g off : Nat) (c l : List D) : g ∈ V → H g = some c → off + l.length ≤ c.length → (∀ i (h : i < l.length) (h' : off + i < c.length),Vw H V c[off + i] l[i]) → (∀ d ∈ l,In (fun _ => False) d) → Vw H V (.ptr g off) (.at_ l)
  | vecN (g n sz : Nat) (c : List D) (l : List (List D)) : g ∈ V → H g = some c → n * sz ≤ c.length → (∀ e ∈ l,e.length = sz) → l.length = n → (∀ i (h : i < l.flatten.length) (h' : i < c.length),Vw H V c[i] l.flatten[i]) → (∀ d ∈ l.flatten,In (fun _ => False) d) → Vw H V (.vec g n sz) (.list l)

theorem list_of_cells {w : World} {β : Bet} {Z : Blk} {b off c sz : Nat} {l : List (List D)} {cs : List D} (f : Nat → Value) (hz : ¬ Z b) (hb : b < w.heap.size) (hc : l.length ≤ c) (hs : ∀ e ∈ l,e.length = sz) (hf : l.flatten = cs)
    (hcell : ∀ i,i < cs.length → w.cell? ⟨b,off + i,none⟩ = some (f i)) (hrep : ∀ i (h : i < cs.length),Rep w β0 Z (f i) cs[i]) : Rep w β Z (.slice (some ⟨b,off,none⟩) l.length c) (.list l) := by
  obtain ⟨f1,f2⟩ := flat_get l hs
  subst hf
  have key : ∀ k j (hk : k < l.length) (hj : j < l[k].length),k * sz + j < l.flatten.length ∧ ∀ h,l.flatten[k * sz + j]'h = l[k][j] := by
    intro k j hk hj
    have hsz : l[k].length = sz := hs _ (List.getElem_mem hk)
    have h0 : 0 < sz := by omega
    have hlt : k * sz + j < l.length * sz := by
      have : (k + 1) * sz ≤ l.length * sz := Nat.mul_le_mul_right sz hk
      rw [Nat.add_mul] at this
      omega
    refine ⟨by rw [f1]; exact hlt,fun h => ?_⟩
    have e1 := f2 (k * sz + j)
    have e2 : (k * sz + j) / sz = k := by rw [Nat.mul_comm,Nat.mul_add_div h0,Nat.div_eq_of_lt (by omega)]; omega
    have e3 : (k * sz + j) % sz = j := by rw [Nat.mul_comm,Nat.mul_add_mod,Nat.mod_eq_of_lt (by omega)]
    rw [if_pos h0,e2,e3,List.getElem?_eq_getElem h,List.getElem?_eq_getElem hk,Option.bind_some,List.getElem?_eq_getElem hj] at e1
    exact Option.some.inj e1
  refine .list b off c sz l (fun k j => f (k * sz + j)) hz hb hc hs (fun k j hk hj => ?_) (fun k j hk hj => ?_)
  · have := hcell (k * sz + j) (key k j hk hj).1
    rw [← Nat.add_assoc] at this
    exact this
  · obtain ⟨h1,h2⟩ := key k j hk hj
    have := hrep _ h1
    rw [h2] at this
    exact this
theorem Vw.rep {w : World} {β : Bet} {Z : Blk} {H : Heap} {V : List Nat} {v : Value} {d d' : D} (h : Vw H V d d') (hv : Rep w β Z v d) (ho : ∀ g c,g ∈ V → H g = some c → Holds w β Z g c) :
    Rep w β (fun b => Z b ∧ ¬ ∃ g ∈ V, β g = some b) v d' := by
  have down : ∀ {v d},Rep w β Z v d → Rep w β (fun b => Z b ∧ ¬ ∃ g ∈ V, β g = some b) v d := fun h => h.mono (Fr.refl (fun _ => False) w) (fun _ _ h => h.elim) (Ext.refl β) (fun _ _ h => h.1)
  have down0 : ∀ {v d},Rep w β Z v d → In (fun _ => False) d → Rep w β0 (fun b => Z b ∧ ¬ ∃ g ∈ V, β g = some b) v d := fun h hi => (down h).rename hi (fun g hg => hg.elim)
  induction h generalizing v with
  | refl d => exact down hv
  | bot d => exact .bot v
  | nil => have := hv.val_eq; subst this; exact .list0 _ _
  | cap0 => cases hv; exact .list0 _ _
  | nilc => have := hv.val_eq; subst this; exact .cap0 _
  | nilv g sz => have := hv.val_eq; subst this; exact .vec0 _ _ _
  | cap0v g sz => cases hv; exact .vec0 _ _ _
  | vec g n sz c l hg hc hl hs hn hf hin =>
    cases hv with
    | vec0 A =>
      have : l = [] := List.length_eq_zero_iff.1 hn
      subst this
      exact .list0 _ _
    | vec _ _ _ B cap e m hB hlt hlen hsh hm =>
      obtain ⟨cs,e',hO⟩ := (ho g c hg hc).real hB
      subst hn
      refine list_of_cells (fun i => cs.getD i undef) (fun h => h.2 ⟨g,hg,hB⟩) hlt hlen hs hf (fun i hi => ?_) (fun i hi => ?_)
      · rw [Nat.zero_add]; exact hO.cell hsh i (by simp at hi; omega)
      · have hi' : i < c.length := by simp at hi; omega
        simp only [List.getElem_take]
        exact down0 (hO.rep i hi') (hin _ (List.getElem_mem hi'))
  | own g off n sz c l hg hc hl hs hn hf hin =>
    cases hv with
    | own _ _ _ _ B cap e m hB hlt hlen hsh hm =>
      obtain ⟨cs,e',hO⟩ := (ho g c hg hc).real hB
      subst hn
      refine list_of_cells (fun i => cs.getD (off + i) undef) (fun h => h.2 ⟨g,hg,hB⟩) hlt hlen hs hf (fun i hi => ?_) (fun i hi => ?_)
      · exact hO.cell hsh (off + i) (by simp at hi; omega)
      · have hi' : off + i < c.length := by simp at hi; omega
        simp only [List.getElem_take,List.getElem_drop]
        exact down0 (hO.rep (off + i) hi') (hin _ (List.getElem_mem hi'))
  | ptr g off c hg hc hl hin =>
    cases hv with
    | ptr _ _ B e n hB hsh =>
      obtain ⟨cs,e',hO⟩ := (ho g c hg hc).real hB
      refine .at_ B off _ (fun j => cs.getD (off + j) undef) (fun h => h.2 ⟨g,hg,hB⟩) hO.lt (fun j hj => ?_) (fun j hj => ?_)
      · exact hO.cell hsh (off + j) (by simp at hj; omega)
      · have hi' : off + j < c.length := by simp at hj; omega
        simp only [List.getElem_drop]
        exact down0 (hO.rep (off + j) hi') (hin _ (List.getElem_mem hi'))
  | ptrN g off c l hg hc hl _ hin ih =>
    cases hv with
    | ptr _ _ B e n hB hsh =>
      obtain ⟨cs,e',hO⟩ := (ho g c hg hc).real hB
      refine .at_ B off l (fun j => cs.getD (off + j) undef) (fun h => h.2 ⟨g,hg,hB⟩) hO.lt (fun j hj => ?_) (fun j hj => ?_)
      · exact hO.cell hsh (off + j) (by omega)
      · exact (ih j hj (by omega) (hO.rep (off + j) (by omega))).rename (hin _ (List.getElem_mem hj)) fun g hg => hg.elim
  | vecN g n sz c l hg hc hl hs hn _ hin ih =>
    cases hv with
    | vec0 A =>
      have : l = [] := List.length_eq_zero_iff.1 hn
      subst this
      exact .list0 _ _
    | vec _ _ _ B cap e m hB hlt hlen hsh hm =>
      obtain ⟨cs,e',hO⟩ := (ho g c hg hc).real hB
      subst hn
      have hfl : l.flatten.length = l.length * sz := (flat_get l hs).1
      refine list_of_cells (fun i => cs.getD i undef) (fun h => h.2 ⟨g,hg,hB⟩) hlt hlen hs rfl (fun i hi => ?_) (fun i hi => ?_)
      · rw [Nat.zero_add]; exact hO.cell hsh i (by omega)
      · exact (ih i hi (by omega) (hO.rep i (by omega))).rename (hin _ (List.getElem_mem hi)) fun g hg => hg.elim
  | agg k l hl _ ih =>
    cases hv with
    | agg cs _ h1 h2 => exact .agg cs l (by omega) fun i hi => ih i (by omega) hi (h2 i (by omega))
  | tup k l hl _ ih =>
    cases hv with
    | tup cs _ h1 h2 => exact .tup cs l (by omega) fun i hi => ih i (by omega) hi (h2 i (by omega))
  | fn f k l k' l' hk _ hl _ ihk ihl =>
    cases hv with
    | fn _ us vs _ _ h1 h2 h3 h4 => exact .fn f us vs k' l' (by omega) (fun i hi => ihk i (by omega) hi (h2 i (by omega))) (by omega) (fun i hi => ihl i (by omega) hi (h4 i (by omega)))
  | yref g r k =>
    cases hv with
    | yld _ l _ _ h1 => exact .yref g l h1

theorem AC.view {P : Program} {f : FuncId} {args args' : List D} {h : Hp} {up : Ups} {d : D} {H : Heap} {V : List Nat} (hA : AC P f args' h up d) (hlen : args.length = args'.length) (hvw : ∀ i (hi : i < args.length) (hi' : i < args'.length),Vw H V args[i] args'[i])
    (hV : V = [] ∨ (Flat d ∧ (∀ x ∈ up, ∀ c,x.2 = some c → ∀ e ∈ c,Flat e))) (hd : ∀ g ∈ V,g ∉ h.map (·.1) ∧ g ∉ up.map (·.1)) (hlive : ∀ g ∈ V, ∃ c,H g = some c) {w : World} {vs : Array Value} {β : Bet} {Z : Blk} (hs : vs.size = args.length) (hr : ∀ i (hi : i < args.length),Rep w β Z (vs.getD i undef) args[i])
    (hh : ∀ x ∈ h,H x.1 = some x.2) (hfr : ∀ g ∈ up.map (·.1),g ∉ h.map (·.1) → H g = none) (hp : PreOp w β Z H ⟨d,h.map (·.1) ++ V,up⟩) : Calls P f vs w fun e w' => ∃ v,e = .returned v ∧ Post w β Z H ⟨d,h.map (·.1) ++ V,up⟩ v w' := by
  refine (hA.2 w vs β (fun b => Z b ∧ ¬ ∃ g ∈ V, β g = some b) H (by omega) (fun i hi => (hvw i (by omega) hi).rep (hr i (by omega)) fun g c hg hc => hp.objs g c (.inl (by simp [hg])) hc) hh hfr ?_).mono ?_
  · refine ⟨fun g c hg hc => ?_,fun g g' c c' B hg hg' => hp.inj g g' c c' B (hg.imp (fun h => by simp at h ⊢; exact .inl h) id) (hg'.imp (fun h => by simp at h ⊢; exact .inl h) id),fun g hg hn => hp.fresh g hg hn,fun b hb => hp.zlt b hb.1,fun g => (hp.gl g).mono (Fr.refl (fun _ => False) w) (fun _ _ h => h.elim) (Ext.refl _) fun b _ h => h.1⟩
    have hg' : g ∈ (⟨d,h.map (·.1) ++ V,up⟩ : Eff).rd ∨ g ∈ (⟨d,h.map (·.1) ++ V,up⟩ : Eff).ids := hg.imp (fun h => by simp at h ⊢; exact .inl h) id
    rcases hp.objs g c hg' hc with h1 | ⟨B,cs,e,hO⟩
    · exact .inl h1
    · refine .inr ⟨B,cs,e,hO.at_,⟨hO.ours,?_⟩,hO.blk,hO.fits,fun i hi => (hO.rep i hi).mono (Fr.refl (fun _ => False) w) (fun _ _ h => h.elim) (Ext.refl β) (fun b _ h => h.1)⟩
      rintro ⟨g',hgV,hB⟩
      have hne : g ≠ g' := by
        rintro rfl
        rcases hg with h1 | h1
        · exact (hd g hgV).1 h1
        · exact (hd g hgV).2 h1
      obtain ⟨c',hc'⟩ := hlive g' hgV
      exact hne (hp.inj g g' c c' B hg' (.inl (by simp [hgV])) hc hc' hO.at_ hB)
  · rintro e w' ⟨v,he, β',p⟩
    have conv : ∀ {v x},(V = [] ∨ Flat x) → Rep w' β' (Zof (fun b => Z b ∧ ¬ ∃ g ∈ V, β g = some b) β' ⟨d,h.map (·.1),up⟩) v x → Rep w' β' (Zof Z β' ⟨d,h.map (·.1) ++ V,up⟩) v x := by
      intro v x hf hr
      rcases hf with rfl | hf
      · refine hr.mono (Fr.refl (fun _ => False) w') (fun _ _ h => h.elim) (Ext.refl β') (fun b _ hb => ?_)
        rcases hb with hb | hb
        · exact .inl ⟨hb,by simp⟩
        · exact .inr hb
      · exact hr.flat hf
    refine ⟨v,he, β',p.ext,p.dom,p.fr,?_,fun g c hg hc => ?_,p.orig,fun b hb hz => ?_,fun hzl b hz => ?_,p.inj⟩
    · exact conv (hV.imp id (·.1)) p.rep
    · rcases p.objs g c hg hc with h1 | ⟨B,cs,e',hO⟩
      · exact .inl h1
      · refine .inr ⟨B,cs,e',hO.at_,?_,hO.blk,hO.fits,fun i hi => conv (hV.imp id fun h2 => ?_) (hO.rep i hi)⟩
        · exact hO.ours.imp (·.1) id
        · obtain ⟨x,hx,rfl⟩ := List.mem_map.1 hg
          have hex : ∃ y ∈ up,y.2 = some c := by
            unfold upH at hc
            split at hc
            · rename_i y hy
              exact ⟨y,List.mem_of_find?_eq_some hy,hc⟩
            · rename_i hy
              have := List.find?_eq_none.1 hy x hx
              simp at this
          obtain ⟨y,hy,hyc⟩ := hex
          exact h2.2 y hy c hyc _ (List.getElem_mem hi)
    · rcases hz with hz | hz
      · exact hz
      · exact (p.zold b hb (.inr hz)).1
    · rcases hz with hz | hz
      · exact Nat.lt_of_lt_of_le (hzl b hz) p.fr.size
      · exact p.zlt (fun b hb => hzl b hb.1) b (.inr hz)

/-! ### states as lists -/
structure AOper where
  dst : Option Nat
  op : AOp
  guard : Option (Option Nat × Bool)
  anc : List Nat
structure St where
  env : Env
  hp : Hp
  nx : Nat
def eget : Env → Nat → D
  | [],_ => .bot
  | (k,d) :: r,t => if k = t then d else eget r t
def eput : Env → Nat → D → Env
  | [],t,d => [(t,d)]
  | (k,e) :: r,t,d => if k = t then (k,d) :: r else (k,e) :: eput r t d
def hget : Hp → Nat → Option (List D)
  | [],_ => none
  | (k,d) :: r,t => if k = t then some d else hget r t
def hput : Hp → Nat → List D → Hp
  | [],t,d => [(t,d)]
  | (k,e) :: r,t,d => if k = t then (k,d) :: r else (k,e) :: hput r t d
def hdel : Hp → Nat → Hp
  | [],_ => []
  | (k,e) :: r,t => if k = t then hdel r t else (k,e) :: hdel r t
def putO : Env → Option Nat → D → Env
  | env,none,_ => env
  | env,some t,d => eput env t d
def hups : Hp → Ups → Hp
  | hp,[] => hp
  | hp,(g,some c) :: r => hput (hups hp r) g c
  | hp,(g,none) :: r => hdel (hups hp r) g
theorem get_put (env : Env) (t u : Nat) (d : D) : eget (eput env t d) u = if t = u then d else eget env u := by
  induction env with
  | nil => simp [eput,eget]
  | cons x r ih =>
    obtain ⟨k,e⟩ := x
    unfold eput
    by_cases hk : k = t
    · subst hk
      by_cases hu : k = u <;> simp [eget,hu]
    · rw [if_neg hk]
      by_cases hu : k = u
      · subst hu
        simp [eget,Ne.symm hk]
      · simp [eget,hu,ih]
theorem get_putO (env : Env) (t : Option Nat) (u : Nat) (d : D) : eget (putO env t d) u = if t = some u then d else eget env u := by
  cases t with
  | none => simp [putO]
  | some t => simp [putO,get_put]
theorem hget_hput (hp : Hp) (t u : Nat) (c : List D) : hget (hput hp t c) u = if t = u then some c else hget hp u := by
  induction hp with
  | nil => simp [hput,hget]
  | cons x r ih =>
    obtain ⟨k,e⟩ := x
    unfold hput
    by_cases hk : k = t
    · subst hk
      by_cases hu : k = u <;> simp [hget,hu]
    · rw [if_neg hk]
      by_cases hu : k = u
      · subst hu
        simp [hget,Ne.symm hk]
      · simp [hget,hu,ih]
theorem hget_hdel (hp : Hp) (t u : Nat) : hget (hdel hp t) u = if t = u then none else hget hp u := by
  induction hp with
  | nil => simp [hdel,hget]
  | cons x r ih =>
    obtain ⟨k,e⟩ := x
    unfold hdel
    by_cases hk : k = t
    · subst hk
      rw [if_pos rfl,ih]
      by_cases hu : k = u <;> simp [hget,hu]
    · rw [if_neg hk]
      by_cases hu : k = u
      · subst hu
        simp [hget,Ne.symm hk]
      · simp [hget,hu,ih]
theorem hget_hups (hp : Hp) (up : Ups) (g : Nat) : hget (hups hp up) g = upH (hget hp) up g := by
  induction up with
  | nil => rfl
  | cons x r ih =>
    obtain ⟨k,c⟩ := x
    have hu : upH (hget hp) ((k,c) :: r) g = if k = g then c else upH (hget hp) r g := by
      unfold upH
      by_cases hk : k = g
      · subst hk; simp
      · simp [hk]
    rw [hu]
    cases c with
    | none => unfold hups; rw [hget_hdel,ih]
    | some c => unfold hups; rw [hget_hput,ih]
def St.F (s : St) : FSt := ⟨eget s.env,hget s.hp⟩
def St.app (s : St) (dst : Option Nat) (d : D) (up : Ups) : St := ⟨putO s.env dst d,hups s.hp up,s.nx⟩
theorem St.app_F (s : St) (dst : Option Nat) (ef : Eff) : (s.app dst ef.d ef.up).F = s.F.app dst ef := by
  unfold St.F St.app FSt.app
  congr 1
  · funext t; exact get_putO s.env dst t ef.d
  · funext g; exact hget_hups s.hp ef.up g
end Go.Proofs.YtbncpngjclabhaaGreat.Lift
namespace Go.Proofs.YtbncpngjclabhaaGreat.Lift
open Go Go.RowKit

abbrev Lg := List (Nat × List Nat × List Nat)
def gsplit (env : Env) (g : Option (Option Nat × Bool)) (run skip : Prop) : Prop := match g with
  | none => run
  | some (none,_) => skip
  | some (some t,want) => match eget env t with
    | .val (.bool b) => (b = want → run) ∧ (b ≠ want → skip)
    | .val _ => skip
    | _ => False
def okLog (dr : Bool) (log : Lg) (anc rd ids : List Nat) : Bool := !dr || log.all fun x => anc.contains x.1 || (x.2.2.all (fun g => !rd.contains g && !ids.contains g) && ids.all fun g => !x.2.1.contains g)
def okNew (hp : Hp) (id : Nat) (ids : List Nat) : Bool := ids.all fun g => (hget hp g).isSome || (decide (id ≤ g) && decide (g < id + 8))
def ACall (P : Program) (fd : D) (args : List D) (hp : Hp) (id : Nat) (K : D → List Nat → Ups → Prop) : Prop :=
  ∃ f first caps args' h up d V,fd = .fn f first caps ∧ AC P f args' h up d ∧ (first ++ args ++ caps).length = args'.length ∧ (∀ i (hi : i < (first ++ args ++ caps).length) (hi' : i < args'.length),Vw (hget hp) V (first ++ args ++ caps)[i] args'[i]) ∧
    (V = [] ∨ (Flat d ∧ (∀ x ∈ up, ∀ c,x.2 = some c → ∀ e ∈ c,Flat e))) ∧ (∀ g ∈ V,g ∉ h.map (·.1) ∧ g ∉ up.map (·.1)) ∧ (∀ g ∈ V, ∃ c,hget hp g = some c) ∧ (∀ x ∈ h,hget hp x.1 = some x.2) ∧ (∀ g ∈ up.map (·.1),g ∉ h.map (·.1) → hget hp g = none) ∧ okNew hp id (up.map (·.1)) = true ∧ K d (h.map (·.1) ++ V) up
def ARes : Option Eff → (Eff → Prop) → Prop
  | some ef,K => K ef
  | none,_ => False
def ARun (P : Program) (dr : Bool) (base : Nat) (Q : St → Prop) : List AOper → Nat → St → Lg → Prop
  | [],_,s,_ => Q s
  | o :: l,k,s,log => gsplit s.env o.guard
      (match o.op with
        | .call f args => ACall P (s.F.ev f) (args.map s.F.ev) s.hp (base + 8 * k) fun d rd up => okLog dr log o.anc rd (up.map (·.1)) = true ∧ ARun P dr base Q l (k + 1) (s.app o.dst d up) ((k,rd,up.map (·.1)) :: log)
        | op => ARes (aexec s.F.ev (hget s.hp) (base + 8 * k) op) fun ef => okLog dr log o.anc ef.rd (ef.up.map (·.1)) = true ∧ ARun P dr base Q l (k + 1) (s.app o.dst ef.d ef.up) ((k,ef.rd,ef.up.map (·.1)) :: log))
      (ARun P dr base Q l (k + 1) (s.app o.dst (.val undef) []) log)

theorem base_live {H : Heap} {sz : Nat} {d : D} {x : Nat × List D × List Nat} (h : base H sz d = some x) : ∀ g ∈ x.2.2,(H g).isSome = true := by
  unfold base at h
  split at h
  · cases h; simp
  · cases h; simp
  · split at h
    · rename_i c hc
      split at h
      · cases h; simp [hc]
      · cases h
    · cases h
  · split at h
    · rename_i c hc
      split at h
      · cases h; simp [hc]
      · cases h
    · cases h
  · cases h
theorem aexec_ids {ρ : Operand → D} {H : Heap} {id : Nat} {op : AOp} {ef : Eff} (h : aexec ρ H id op = some ef) : ∀ g ∈ ef.ids,g = id ∨ (H g).isSome = true := by
  have nil : ∀ {d : D} {rd : List Nat},some (⟨d,rd,[]⟩ : Eff) = some ef → ∀ g ∈ ef.ids,g = id ∨ (H g).isSome = true := by
    intro d rd h; cases h; intro g hg; simp [Eff.ids] at hg
  have one : ∀ {d : D} {c : Option (List D)},some (⟨d,[],[(id,c)]⟩ : Eff) = some ef → ∀ g ∈ ef.ids,g = id ∨ (H g).isSome = true := by
    intro d c h; cases h; intro g hg; simp [Eff.ids] at hg; exact .inl hg
  have map1 : ∀ {α : Type} {x : Option α} {f : α → Eff},(∀ a,(f a).up = []) → x.map f = some ef → ∀ g ∈ ef.ids,g = id ∨ (H g).isSome = true := by
    intro α x f hf h g hg
    simp only [Option.map_eq_some_iff] at h
    obtain ⟨a,_,rfl⟩ := h
    simp [Eff.ids,hf] at hg
  have o1 : ∀ {x : Option D} {rd : List Nat},opt1 x rd = some ef → ∀ g ∈ ef.ids,g = id ∨ (H g).isSome = true := fun h => map1 (fun _ => rfl) h
  cases op <;> simp only [aexec] at h
  case mv => exact nil h
  case pick => split at h <;> first | exact nil h | cases h
  case box => split at h <;> first | exact one h | cases h
  case mem => split at h <;> first | exact one h | cases h
  case build => exact map1 (fun _ => rfl) h
  case buildSl =>
    split at h
    · cases h
    · simp only [Option.map_eq_some_iff] at h
      obtain ⟨a,_,rfl⟩ := h
      intro g hg; simp [Eff.ids] at hg; exact .inl hg
  case load1 => exact map1 (fun _ => rfl) h
  case loadN => repeat' (first | (exact nil h) | (cases h; done) | split at h)
  case store =>
    split at h
    · split at h
      · rename_i c hc
        split at h
        · cases h; intro g hg; simp [Eff.ids] at hg; subst hg; exact .inr (by rw [hc]; rfl)
        · cases h
      · cases h
    · cases h
  case nilc => split at h <;> first | exact nil h | cases h
  case bin =>
    split at h
    · split at h
      · exact map1 (fun _ => rfl) h
      · split at h
        · exact map1 (fun _ => rfl) h
        · cases h
    · cases h
  case eqb => split at h <;> first | exact nil h | cases h
  case eqn => repeat' (first | (exact nil h) | (cases h; done) | split at h)
  case eqa =>
    split at h
    · exact map1 (fun _ => rfl) h
    · cases h
  case un => split at h <;> first | exact nil h | cases h
  case conv => split at h <;> first | exact nil h | cases h
  case mkfn => exact nil h
  case slS => repeat' (first | (exact nil h) | (cases h; done) | split at h)
  case slA => repeat' (first | (exact nil h) | (cases h; done) | split at h)
  case fad => split at h <;> first | exact nil h | cases h
  case fld1 => split at h <;> first | exact o1 h | cases h
  case fldN => split at h <;> first | exact nil h | cases h
  case iadA => repeat' (first | (exact nil h) | (cases h; done) | split at h)
  case iadS => repeat' (first | (exact nil h) | (exact o1 h) | (cases h; done) | split at h)
  case idx1 => repeat' (first | (exact o1 h) | (cases h; done) | split at h)
  case idxN => repeat' (first | (exact nil h) | (cases h; done) | split at h)
  case ext => split at h <;> first | exact o1 h | cases h
  case len_ => split at h <;> first | exact nil h | cases h
  case lenC => exact nil h
  case mnx => split at h <;> first | exact map1 (fun _ => rfl) h | cases h
  case app =>
    split at h
    · rename_i n c ks m c' rd hb he
      split at h
      · cases h
        intro g hg
        unfold Eff.ids at hg
        rw [ups_ids] at hg
        simp at hg
        rcases hg with hg | hg
        · exact .inr (base_live hb g hg)
        · exact .inl hg
      · cases h
    · cases h
  case mksl => repeat' (first | (exact one h) | (cases h; done) | split at h)
  case call => cases h
  case mkmap => split at h <;> first | exact one h | cases h
  case look =>
    split at h
    · split at h
      · split at h
        · exact map1 (fun _ => rfl) h
        · cases h
      · cases h
    · cases h
  case mset =>
    split at h
    · split at h
      · rename_i l kv vv hl _ _
        split at h
        · cases h
          intro g hg
          simp [Eff.ids] at hg
          subst hg
          unfold entsH at hl
          split at hl
          · rename_i c hc; exact .inr (by rw [hc]; rfl)
          · cases hl
        · cases h
      · cases h
    · cases h

/-! ### the translation of a region -/
def ancGo : List Oper → List (List Nat) → List (List Nat)
  | [],acc => acc
  | o :: l,acc => ancGo l (acc ++ [((o.after.toList.filter (Region.binds .any)).flatMap fun e => e.on :: (acc[e.on]?).getD []).eraseDups])
theorem ancGo_sound {ops : Array Oper} : ∀ (l : List Oper) (acc : List (List Nat)),(∀ j,l[j]? = ops[acc.length + j]?) → (∀ i j,j ∈ (acc[i]?).getD [] → Anc .any ops i j) → ∀ i j,j ∈ ((ancGo l acc)[i]?).getD [] → Anc .any ops i j
  | [],acc,_,h => h
  | o :: l,acc,hl,h => by
    have h0 : ops[acc.length]? = some o := by simpa using (hl 0).symm
    refine ancGo_sound l _ (fun j => ?_) (fun i j hj => ?_)
    · have := hl (j + 1)
      simpa [Nat.add_assoc,Nat.add_comm 1 j] using this
    · rw [List.getElem?_append] at hj
      split at hj
      · exact h i j hj
      · rename_i hi
        by_cases he : i = acc.length
        · subst he
          simp only [Nat.sub_self,List.getElem?_cons_zero,Option.getD_some,List.mem_eraseDups,List.mem_flatMap,List.mem_filter,Array.mem_toList_iff,List.mem_cons] at hj
          obtain ⟨e,⟨he1,he2⟩,rfl | hj⟩ := hj
          · exact .base _ o e h0 he1 he2
          · exact .step _ _ o e h0 he1 he2 (h _ _ hj)
        · have : i - acc.length ≠ 0 := by omega
          obtain ⟨m,hm⟩ := Nat.exists_eq_succ_of_ne_zero this
          rw [hm] at hj
          simp at hj
def compOper (P : Program) (n : Nat) (ops : Array Oper) (an : List Nat) (o : Oper) : Option AOper := match compOp P o.op with
  | some ao => if (o.dst.all fun d => decide (d < n)) = true then some ⟨o.dst,ao,o.guard.map fun g => ((ops[g.1]?).bind (·.dst),g.2),an⟩ else none
  | none => none
def compOps (P : Program) (n : Nat) (ops : Array Oper) (ans : List (List Nat)) : List Oper → Nat → Option (List AOper)
  | [],_ => some []
  | o :: l,k => match compOper P n ops ((ans[k]?).getD []) o,compOps P n ops ans l (k + 1) with
    | some a,some b => some (a :: b)
    | _,_ => none
def LogOK (log : Lg) (lg : Log) : Prop := ∀ j ef,lg j ef → (j,ef.rd,ef.ids) ∈ log

section
variable {P : Program} {ops : Array Oper} {n bs : Nat} {dr : Bool} {ans : List (List Nat)}
theorem okLog_compat {log : Lg} {lg : Log} {k : Nat} {ef : Eff} (hans : ∀ i j,j ∈ (ans[i]?).getD [] → Anc .any ops i j) (hlg : LogOK log lg) (h : okLog dr log ((ans[k]?).getD []) ef.rd ef.ids = true) : compat dr .any ops lg k ef := by
  intro hdr j efj hj
  subst hdr
  simp only [okLog,Bool.not_true,Bool.false_or,List.all_eq_true] at h
  have h1 := h _ (hlg j efj hj)
  simp only [Bool.or_eq_true,Bool.and_eq_true] at h1
  rcases h1 with h1 | ⟨h1,h2⟩
  · exact .inl (hans k j (by simpa using h1))
  · refine .inr ⟨fun g hg => ?_,fun g hg => ?_⟩
    · have := List.all_eq_true.1 h1 g hg
      simpa using this
    · have := List.all_eq_true.1 h2 g hg
      simpa using this
theorem does_call {o : Oper} {f : Operand} {c : Call} {s : St} {id : Nat} {K : D → List Nat → Ups → Prop} (ho : o.op = .call c) (hc : c.callee = .value f) (h : ACall P (s.F.ev f) (c.args.toList.map s.F.ev) s.hp id K) :
    ∃ ef : Eff,Does P o s.F.ev s.F.H ef ∧ okNew s.hp id ef.ids = true ∧ K ef.d ef.rd ef.up := by
  obtain ⟨g,first,caps,args',hh,up,d,V,hf,hA,hlen,hvw,hV,hd,hlive,hhh,hfr,hnew,hK⟩ := h
  refine ⟨⟨d,hh.map (·.1) ++ V,up⟩,?_,hnew,hK⟩
  intro w ev β Z hev hp
  have hfv := hev f (by simp [ho,Op.operands,Call.operands,hc])
  rw [hf] at hfv
  generalize hvf : ev f = vf at hfv
  cases hfv with
  | fn _ us vs _ _ h1 h2 h3 h4 =>
    obtain ⟨fn,hfn,hname,hbody⟩ := hA.1
    have hb : fn.body.isNone = false := by cases h : fn.body <;> simp_all
    have hrun : (execOp ev o).run P w = .ok (.enter g (us ++ c.args.map ev ++ vs)) w := by
      simp only [execOp,ho,resolve,hc,hvf,Deferred.ofValue,Sem.run_bind,Sem.run_pure,Result.andThen_ok,invoke,callFunc,run_program,hfn]
      simp [hname,hb]
    rw [hrun]
    have hsz : (us ++ c.args.map ev ++ vs).size = (first ++ c.args.toList.map s.F.ev ++ caps).length := by simp [h1,h3]
    refine (hA.view (H := s.F.H) hlen hvw hV hd hlive hsz (fun i hi => ?_) hhh hfr hp).mono fun e w' he => he
    by_cases c1 : i < first.length
    · have e1 : (us ++ c.args.map ev ++ vs).getD i undef = us.getD i undef := by
        rw [Array.append_assoc,getD_append_left _ _ _ (by omega)]
      have e2 : (first ++ c.args.toList.map s.F.ev ++ caps)[i] = first[i] := by
        rw [List.getElem_append_left (by simp; omega),List.getElem_append_left c1]
      rw [e1,e2]
      exact h2 i c1
    · by_cases c2 : i < first.length + c.args.size
      · have hj : i - first.length < c.args.size := by omega
        have e1 : (us ++ c.args.map ev ++ vs).getD i undef = ev c.args[i - first.length] := by
          rw [getD_append_left _ _ _ (by simp; omega),getD_append_right _ _ _ (by omega),h1]
          simp [hj]
        have e2 : (first ++ c.args.toList.map s.F.ev ++ caps)[i] = s.F.ev c.args[i - first.length] := by
          rw [List.getElem_append_left (by simp; omega),List.getElem_append_right (by omega)]
          simp
        rw [e1,e2]
        exact hev _ (by simp [ho,Op.operands,Call.operands,hc])
      · have hj : i - first.length - c.args.size < caps.length := by simp at hi; omega
        have e1 : (us ++ c.args.map ev ++ vs).getD i undef = vs.getD (i - first.length - c.args.size) undef := by
          rw [getD_append_right _ _ _ (by simp; omega)]
          simp [h1,Nat.sub_sub]
        have e2 : (first ++ c.args.toList.map s.F.ev ++ caps)[i] = caps[i - first.length - c.args.size] := by
          rw [List.getElem_append_right (by simp; omega)]
          simp [Nat.sub_sub]
        rw [e1,e2]
        exact h4 _ hj
theorem comp_call {o : Oper} {f : Operand} {args : List Operand} (h : compOp P o.op = some (.call f args)) : ∃ c,o.op = .call c ∧ c.callee = .value f ∧ c.args.toList = args := by
  cases ho : o.op with
  | call c =>
    rw [ho] at h
    simp only [compOp,cCall] at h
    split at h
    · split at h
      · simp only [cLen] at h; split at h <;> cases h
      · cases h
    · split at h
      · simp only [cApp] at h
        split at h
        · split at h
          · split at h
            · split at h <;> cases h
            · cases h
          · cases h
        · cases h
      · cases h
    · cases h
    · cases h
    · rename_i g hg; cases h; exact ⟨c,rfl,hg,rfl⟩
    · cases h
  | makeFunc fn a b => rw [ho] at h; cases fn <;> cases h
  | slice t x lo hi mx =>
    rw [ho] at h
    cases mx with
    | some m => cases h
    | none => simp only [compOp,cSlice] at h; repeat' (first | (cases h; done) | split at h)
  | binOp op t x y u =>
    rw [ho] at h; simp only [compOp,cBin] at h
    have e : ∀ (g : Bool → AOp),(∀ b,g b ≠ .call f args) → cEq op g ≠ some (.call f args) := by
      intro g hg he
      obtain ⟨b,_,hb⟩ := cEq_spec he
      exact hg b hb.symm
    have ea : cEqA P op t x y ≠ some (.call f args) := by
      intro he
      unfold cEqA at he
      split at he
      · split at he
        · exact e _ (fun b => by simp) he
        · cases he
      · cases he
    split at h
    · cases h
    · exact absurd h (e _ fun b => by simp)
    · exact absurd h (e _ fun b => by simp)
    · exact absurd h ea
    · exact absurd h ea
    · cases h
  | _ => rw [ho] at h; simp only [compOp,cAlloc,cBuild,cBuildSl,cLoad,cStore,cConv,cFad,cField,cIad,cIdx,cMake,cMk,cLook,cMset] at h; repeat' (first | (cases h; done) | (simp at h; done) | split at h)
theorem arun_lex (hans : ∀ i j,j ∈ (ans[i]?).getD [] → Anc .any ops i j) {Q : St → Prop} : ∀ (l : List Oper) (al : List AOper) (k : Nat) (s : St) (log : Lg) (lg : Log),compOps P n ops ans l k = some al → LogOK log lg → ARun P dr bs Q al k s log → aLex dr P .any ops bs (fun fs => ∃ s' : St,fs = s'.F ∧ s'.nx = s.nx ∧ Q s') l k s.F lg
  | [],al,k,s,log,lg,hc,_,h => by
    simp only [compOps,Option.some.injEq] at hc
    subst hc
    exact ⟨s,rfl,rfl,h⟩
  | o :: l,al,k,s,log,lg,hc,hlg,h => by
    simp only [compOps] at hc
    split at hc
    · rename_i a b ha hb
      cases hc
      unfold compOper at ha
      split at ha
      · rename_i ao hao
        split at ha
        · cases ha
          -- taken
          have run : ∀ ef : Eff,wantedA ops o s.F = some true → Does P o s.F.ev s.F.H ef → okNew s.hp (bs + 8 * k) ef.ids = true → okLog dr log ((ans[k]?).getD []) ef.rd ef.ids = true →
              ARun P dr bs Q b (k + 1) (s.app o.dst ef.d ef.up) ((k,ef.rd,ef.ids) :: log) → aLex dr P .any ops bs (fun fs => ∃ s' : St,fs = s'.F ∧ s'.nx = s.nx ∧ Q s') (o :: l) k s.F lg := by
            intro ef hw hdo hn hl hr
            refine ⟨s.F.app o.dst ef,Log.add lg k ef,.inl ⟨hw,ef,hdo,fun g hg hh => ?_,okLog_compat hans hlg hl,rfl,rfl⟩,?_⟩
            · have := List.all_eq_true.1 hn g hg
              have hh' : hget s.hp g = none := hh
              simpa [hh'] using this
            · have := arun_lex hans l b (k + 1) (s.app o.dst ef.d ef.up) _ (Log.add lg k ef) hb (fun j e hj => by
                rcases hj with hj | ⟨rfl,rfl⟩
                · exact List.mem_cons_of_mem _ (hlg j e hj)
                · exact List.mem_cons_self ..) hr
              rw [St.app_F] at this
              exact this
          have skip : wantedA ops o s.F = some false → ARun P dr bs Q b (k + 1) (s.app o.dst (.val undef) []) log → aLex dr P .any ops bs (fun fs => ∃ s' : St,fs = s'.F ∧ s'.nx = s.nx ∧ Q s') (o :: l) k s.F lg := by
            intro hw hr
            refine ⟨s.F.app o.dst skipEff,lg,.inr ⟨hw,rfl,rfl⟩,?_⟩
            have := arun_lex hans l b (k + 1) (s.app o.dst (.val undef) []) log lg hb hlg hr
            rw [show (s.app o.dst (.val undef) []).F = s.F.app o.dst skipEff from St.app_F s o.dst skipEff] at this
            exact this
          have both : ∀ (op : AOp),ao = op → wantedA ops o s.F = some true → (match op with
              | .call f args => ACall P (s.F.ev f) (args.map s.F.ev) s.hp (bs + 8 * k) fun d rd up => okLog dr log ((ans[k]?).getD []) rd (up.map (·.1)) = true ∧ ARun P dr bs Q b (k + 1) (s.app o.dst d up) ((k,rd,up.map (·.1)) :: log)
              | op => ARes (aexec s.F.ev (hget s.hp) (bs + 8 * k) op) fun ef => okLog dr log ((ans[k]?).getD []) ef.rd (ef.up.map (·.1)) = true ∧ ARun P dr bs Q b (k + 1) (s.app o.dst ef.d ef.up) ((k,ef.rd,ef.up.map (·.1)) :: log)) →
              aLex dr P .any ops bs (fun fs => ∃ s' : St,fs = s'.F ∧ s'.nx = s.nx ∧ Q s') (o :: l) k s.F lg := by
            intro op hop hw hr
            subst hop
            split at hr
            · rename_i f args
              obtain ⟨c,ho,hcal,hargs⟩ := comp_call hao
              subst hargs
              obtain ⟨ef,hd,hn,hl,hr⟩ := does_call ho hcal hr
              exact run ef hw hd hn hl hr
            · unfold ARes at hr
              split at hr
              · rename_i ef he
                refine run ef hw (comp_sound hao he) ?_ hr.1 hr.2
                refine List.all_eq_true.2 fun g hg => ?_
                rcases aexec_ids he g hg with h1 | h1
                · subst h1; simp
                · simp [h1]
              · exact hr.elim
          unfold ARun gsplit at h
          simp only at h
          cases hg : o.guard with
          | none =>
            simp only [hg,Option.map_none] at h
            exact both ao rfl (by simp [wantedA,hg]) h
          | some jw =>
            obtain ⟨j,want⟩ := jw
            simp only [hg,Option.map_some] at h
            cases ht : (ops[j]?).bind (·.dst) with
            | none =>
              simp only [ht] at h
              exact skip (by simp [wantedA,hg,ht]) h
            | some t =>
              simp only [ht] at h
              have hF : s.F.env t = eget s.env t := rfl
              split at h
              · rename_i bv hbv
                by_cases hw : bv = want
                · subst hw
                  exact both ao rfl (by simp [wantedA,hg,ht,hF,hbv]) (h.1 rfl)
                · exact skip (by simp [wantedA,hg,ht,hF,hbv,hw]) (h.2 hw)
              · rename_i v hne hv
                refine skip ?_ h
                simp only [wantedA,hg,ht,hF,hv]
              · exact h.elim
        · cases ha
      · cases ha
    · cases hc
end
end Go.Proofs.YtbncpngjclabhaaGreat.Lift
namespace Go.Proofs.YtbncpngjclabhaaGreat.Lift
open Go Go.RowKit

inductive ACode where
  | skip
  | region (dr : Bool) (ops : List AOper) (drop : List Nat)
  | seq (a b : ACode)
  | cond (c : Operand) (a b : ACode)
  | block (id : Nat) (a : ACode)
  | loop (a : ACode)
  | exit (id : Nat)
  | ret
  | rangeFunc (g : Operand) (ps : List Nat) (asg : List (Nat × Nat)) (body : ACode)
  | rangeFuncA (g : Operand) (ps : List Nat) (asg body : ACode)
def asg1 (n : Nat) (o : Oper) : Option (Nat × Nat) := match o.dst,o.op,o.guard with
  | some d,.assign (.tmp p),none => if d < n then some (d,p) else none
  | some d,.move (.tmp p),none => if d < n then some (d,p) else none
  | _,_,_ => none
def asgL (n : Nat) : List Oper → Option (List (Nat × Nat))
  | [] => some []
  | o :: l => match asg1 n o,asgL n l with
    | some a,some b => some (a :: b)
    | _,_ => none
def compAsg (n : Nat) : Code → Option (List (Nat × Nat))
  | .region _ ops dr => if dr = false then asgL n ops.toList else none
  | .seq a b => match compAsg n a,compAsg n b with
    | some x,some y => some (x ++ y)
    | _,_ => none
  | _ => none
def compCode (P : Program) (n : Nat) (keep : List Nat) : Code → Option ACode
  | .skip => some .skip
  | .region _ ops dr => match compOps P n ops (if dr = true then ancGo ops.toList [] else []) ops.toList 0 with
    | some al => if dr = false ∨ (P.follows .mixedOrders = true ∧ Region.lexB .any ops = true) then some (.region dr al ((al.filterMap (·.dst)).filter fun d => !keep.contains d)) else none
    | none => none
  | .seq a b => match compCode P n keep a,compCode P n keep b with
    | some x,some y => some (.seq x y)
    | _,_ => none
  | .cond c a b => match compCode P n keep a,compCode P n keep b with
    | some x,some y => some (.cond c x y)
    | _,_ => none
  | .block id a => (compCode P n keep a).map (.block id)
  | .loop a => (compCode P n keep a).map .loop
  | .exit id => some (.exit id)
  | .ret => some .ret
  | .rangeFunc g ps a b => match compAsg n a,compCode P n keep b with
    | some l,some y => if ps.toList.all (fun p => decide (p < n)) = true then some (.rangeFunc g ps.toList l y) else none
    | none,some y => match compCode P n keep a with
      | some x => if ps.toList.all (fun p => decide (p < n)) = true then some (.rangeFuncA g ps.toList x y) else none
      | none => none
    | _,_ => none
  | _ => none

inductive AExit where
  | norm
  | ex (id : Nat)
  | ret
def Rel (C : Ctx) (s : St) (a : Act) (w : World) : Prop := ∃ β Z,RelS C β Z s.F a w ∧ ∀ g,s.nx ≤ g → β g = none
def PostQ (C : Ctx) (Q : AExit → St → Prop) : Exit → Act → World → Prop
  | .normal,a,w => ∃ s,Q .norm s ∧ Rel C s a w
  | .exit id,a,w => ∃ s,Q (.ex id) s ∧ Rel C s a w
  | .ret,a,w => ∃ s,Q .ret s ∧ Rel C s a w
  | _,_,_ => False
structure Rd where
  rnd : Bool
  lw : List Nat
instance : Coe Bool Rd := ⟨fun b => ⟨b,[]⟩⟩
def Okr (rd : Rd) (C : Ctx) : Prop := C.r.isSome = rd.rnd ∧ ∀ g ∈ rd.lw,g ∈ C.pre ∧ ∃ b,C.β0 g = some b ∧ C.w0.heap.size ≤ b
theorem Okr.nil {rnd : Bool} {C : Ctx} (h : C.r.isSome = rnd) : Okr ⟨rnd,[]⟩ C := ⟨h,fun g hg => by cases hg⟩
def AWb (rd : Rd) (P : Program) (n : Nat) (pre : List Nat) (c : ACode) (Q : AExit → St → Prop) (s : St) : Prop :=
  ∀ code keep,compCode P n keep code = some c → ∀ C a w,C.n = n → C.pre = pre → Okr rd C → Rel C s a w → code.wpIn (Fw C.r) 0 P (PostQ C Q) a w
abbrev AW := AWb false

def thenQ (K : St → Prop) (Q : AExit → St → Prop) : AExit → St → Prop
  | .norm,s => K s
  | e,s => Q e s
def blockQ (id : Nat) (Q : AExit → St → Prop) : AExit → St → Prop
  | .ex i,s => if i = id then Q .norm s else Q (.ex i) s
  | e,s => Q e s

section
variable {rd : Rd} {P : Program} {n : Nat} {pre : List Nat} {Q : AExit → St → Prop} {s : St}
theorem aw_mono {c : ACode} {Q' : AExit → St → Prop} (h : AWb rd P n pre c Q s) (hq : ∀ e s,Q e s → Q' e s) : AWb rd P n pre c Q' s := fun code keep hc C a w hn hp hd hr =>
  wpIn_mono (h code keep hc C a w hn hp hd hr) fun e a w he => by
    cases e <;> first | exact he.elim | (obtain ⟨s,hs,hr⟩ := he; exact ⟨s,hq _ _ hs,hr⟩)
theorem comp_skip {code : Code} {keep : List Nat} (h : compCode P n keep code = some .skip) : code = .skip := by
  cases code with
  | skip => rfl
  | region id ops dr => simp only [compCode] at h; repeat' (first | (cases h; done) | split at h)
  | seq a b => simp only [compCode] at h; split at h <;> cases h
  | cond c a b => simp only [compCode] at h; split at h <;> cases h
  | block id a => simp [compCode] at h
  | loop a => simp [compCode] at h
  | rangeFunc x1 x2 x3 x4 => simp only [compCode] at h; repeat' (first | (cases h; done) | split at h)
  | _ => cases h
theorem aw_skip (h : Q .norm s) : AWb rd P n pre .skip Q s := fun code keep hc C a w hn hp hd hr => by
  cases comp_skip hc
  exact wpIn_skip ⟨s,h,hr⟩
theorem aw_exit {id : Nat} (h : Q (.ex id) s) : AWb rd P n pre (.exit id) Q s := fun code keep hc C a w hn hp hd hr => by
  cases code with
  | exit i => cases hc; exact wpIn_exit ⟨s,h,hr⟩
  | region id ops dr => simp only [compCode] at hc; repeat' (first | (cases hc; done) | split at hc)
  | seq a b => simp only [compCode] at hc; split at hc <;> cases hc
  | cond c a b => simp only [compCode] at hc; split at hc <;> cases hc
  | block id a => simp [compCode] at hc
  | loop a => simp [compCode] at hc
  | rangeFunc x1 x2 x3 x4 => simp only [compCode] at hc; repeat' (first | (cases hc; done) | split at hc)
  | _ => cases hc
theorem aw_ret (h : Q .ret s) : AWb rd P n pre .ret Q s := fun code keep hc C a w hn hp hd hr => by
  cases code with
  | ret => exact wpIn_ret ⟨s,h,hr⟩
  | region id ops dr => simp only [compCode] at hc; repeat' (first | (cases hc; done) | split at hc)
  | seq a b => simp only [compCode] at hc; split at hc <;> cases hc
  | cond c a b => simp only [compCode] at hc; split at hc <;> cases hc
  | block id a => simp [compCode] at hc
  | loop a => simp [compCode] at hc
  | rangeFunc x1 x2 x3 x4 => simp only [compCode] at hc; repeat' (first | (cases hc; done) | split at hc)
  | _ => cases hc
theorem aw_seq {x y : ACode} (h : AWb rd P n pre x (thenQ (AWb rd P n pre y Q) Q) s) : AWb rd P n pre (.seq x y) Q s := fun code keep hc C a w hn hp hd hr => by
  cases code with
  | seq cx cy =>
    simp only [compCode] at hc
    split at hc
    · rename_i x' y' hx hy
      cases hc
      refine wpIn_seq (wpIn_mono (h cx keep hx C a w hn hp hd hr) fun e a w he => ?_)
      cases e with
      | normal => obtain ⟨s',hs,hr'⟩ := he; exact hs cy keep hy C a w hn hp hd hr'
      | exit id => exact he
      | ret => exact he
      | _ => exact he.elim
    · cases hc
  | region id ops dr => simp only [compCode] at hc; repeat' (first | (cases hc; done) | split at hc)
  | cond c a b => simp only [compCode] at hc; split at hc <;> cases hc
  | block id a => simp [compCode] at hc
  | loop a => simp [compCode] at hc
  | rangeFunc x1 x2 x3 x4 => simp only [compCode] at hc; repeat' (first | (cases hc; done) | split at hc)
  | _ => cases hc
theorem aw_cond {c : Operand} {x y : ACode} {b : Bool} (hb : s.F.ev c = .val (.bool b)) (ht : b = true → AWb rd P n pre x Q s) (hf : b = false → AWb rd P n pre y Q s) : AWb rd P n pre (.cond c x y) Q s := fun code keep hc C a w hn hp hd hr => by
  cases code with
  | cond cc cx cy =>
    simp only [compCode] at hc
    split at hc
    · rename_i x' y' hx hy
      cases hc
      have hv : a.eval c = .bool b := by
        obtain ⟨β,Z,h,_⟩ := hr
        have := h.ev c
        rw [hb] at this
        exact this.val_eq.symm
      exact wpIn_cond_split hv (fun h => ht h cx keep hx C a w hn hp hd hr) (fun h => hf h cy keep hy C a w hn hp hd hr)
    · cases hc
  | region id ops dr => simp only [compCode] at hc; repeat' (first | (cases hc; done) | split at hc)
  | seq a b => simp only [compCode] at hc; split at hc <;> cases hc
  | block id a => simp [compCode] at hc
  | loop a => simp [compCode] at hc
  | rangeFunc x1 x2 x3 x4 => simp only [compCode] at hc; repeat' (first | (cases hc; done) | split at hc)
  | _ => cases hc
theorem aw_block {id : Nat} {x : ACode} (h : AWb rd P n pre x (blockQ id Q) s) : AWb rd P n pre (.block id x) Q s := fun code keep hc C a w hn hp hd hr => by
  cases code with
  | block i cx =>
    simp only [compCode,Option.map_eq_some_iff] at hc
    obtain ⟨x',hx,he⟩ := hc
    cases he
    refine wpIn_block (wpIn_mono (h cx keep hx C a w hn hp hd hr) fun e a w he => ?_)
    cases e with
    | normal => exact he
    | exit j =>
      obtain ⟨s',hs,hr'⟩ := he
      show (if j = id then PostQ C Q .normal a w else PostQ C Q (.exit j) a w)
      unfold blockQ at hs
      simp only at hs
      by_cases hj : j = id
      · rw [if_pos hj] at hs ⊢; exact ⟨s',hs,hr'⟩
      · rw [if_neg hj] at hs ⊢; exact ⟨s',hs,hr'⟩
    | ret => exact he
    | _ => exact he.elim
  | region id ops dr => simp only [compCode] at hc; repeat' (first | (cases hc; done) | split at hc)
  | seq a b => simp only [compCode] at hc; split at hc <;> cases hc
  | cond c a b => simp only [compCode] at hc; split at hc <;> cases hc
  | loop a => simp [compCode] at hc
  | rangeFunc x1 x2 x3 x4 => simp only [compCode] at hc; repeat' (first | (cases hc; done) | split at hc)
  | _ => cases hc

def Wk (pre : List Nat) (s s' : St) : Prop := ∀ C a w,C.pre = pre → Rel C s a w → Rel C s' a w
theorem Wk.refl (s : St) : Wk pre s s := fun _ _ _ _ h => h
theorem Wk.trans {a b c : St} (h : Wk pre a b) (k : Wk pre b c) : Wk pre a c := fun C x w hp hr => k C x w hp (h C x w hp hr)
theorem aw_wk {c : ACode} {s' : St} (hw : Wk pre s s') (h : AWb rd P n pre c Q s') : AWb rd P n pre c Q s := fun code keep hc C a w hn hp hd hr => h code keep hc C a w hn hp hd (hw C a w hp hr)

theorem least (p : Nat → Prop) (h : ∃ m,p m) : ∃ m,p m ∧ ∀ k,p k → m ≤ k := by
  obtain ⟨m,hm⟩ := h
  induction m using Nat.strongRecOn with
  | _ m ih =>
    by_cases hx : ∃ k,k < m ∧ p k
    · obtain ⟨k,hk,hp⟩ := hx
      exact ih k hk hp
    · exact ⟨m,hm,fun k hk => Nat.le_of_not_lt fun hlt => hx ⟨k,hlt,hk⟩⟩
open Classical in
theorem aw_loop {ι : Type} {x : ACode} (st : ι → St) (ok : ι → Prop) (μ : ι → Nat) (h0 : ∃ i,ok i ∧ Wk pre s (st i))
    (round : ∀ i,ok i → AWb rd P n pre x (thenQ (fun s' => ∃ j,ok j ∧ μ j < μ i ∧ Wk pre s' (st j)) Q) (st i)) : AWb rd P n pre (.loop x) Q s := fun code keep hc C a w hn hp hd hr => by
  cases code with
  | loop cx =>
    simp only [compCode,Option.map_eq_some_iff] at hc
    obtain ⟨x',hx,he⟩ := hc
    cases he
    let I : Act → World → Prop := fun a w => ∃ m i,ok i ∧ Rel C (st i) a w ∧ μ i = m
    let M : Act → World → Nat := fun a w => if h : I a w then Classical.choose (least _ h) else 0
    obtain ⟨i0,hi0,hw0⟩ := h0
    refine wpIn_loop I M ⟨_,i0,hi0,hw0 C a w hp hr,rfl⟩ fun a w hI => ?_
    have hM : M a w = Classical.choose (least _ hI) := dif_pos hI
    obtain ⟨i,hi,hri,hmi⟩ := (Classical.choose_spec (least _ hI)).1
    refine wpIn_mono (round i hi cx keep hx C a w hn hp hd hri) fun e a' w' he => ?_
    cases e with
    | normal =>
      obtain ⟨s',⟨j,hj,hlt,hw⟩,hr'⟩ := he
      have hI' : I a' w' := ⟨_,j,hj,hw C a' w' hp hr',rfl⟩
      refine ⟨hI',?_⟩
      have hM' : M a' w' = Classical.choose (least _ hI') := dif_pos hI'
      rw [hM,hM']
      have : Classical.choose (least _ hI') ≤ μ j := (Classical.choose_spec (least _ hI')).2 _ ⟨j,hj,hw C a' w' hp hr',rfl⟩
      omega
    | exit id => exact he
    | ret => exact he
    | _ => exact he.elim
  | region id ops dr => simp only [compCode] at hc; repeat' (first | (cases hc; done) | split at hc)
  | seq a b => simp only [compCode] at hc; split at hc <;> cases hc
  | cond c a b => simp only [compCode] at hc; split at hc <;> cases hc
  | block id a => simp [compCode] at hc
  | rangeFunc x1 x2 x3 x4 => simp only [compCode] at hc; repeat' (first | (cases hc; done) | split at hc)
  | _ => cases hc

def inL : List Nat → Nat → Bool
  | [],_ => false
  | x :: r,t => if x = t then true else inL r t
def dropE : Env → List Nat → Env
  | [],_ => []
  | (k,d) :: r,l => if inL l k = true then dropE r l else (k,d) :: dropE r l
theorem get_drop (env : Env) (drop : List Nat) (t : Nat) : eget (dropE env drop) t = eget env t ∨ eget (dropE env drop) t = .bot := by
  induction env with
  | nil => exact .inl rfl
  | cons x r ih =>
    obtain ⟨k,d⟩ := x
    unfold dropE
    split
    · rename_i hk
      by_cases hkt : k = t
      · subst hkt
        refine .inr ?_
        clear ih
        induction r with
        | nil => rfl
        | cons y r ih2 =>
          obtain ⟨k',d'⟩ := y
          unfold dropE
          split
          · exact ih2
          · rename_i h2
            have : k' ≠ k := by rintro rfl; exact h2 hk
            simp only [eget,if_neg this]
            exact ih2
      · simp only [eget,if_neg hkt]
        exact ih
    · by_cases hkt : k = t
      · simp only [eget,if_pos hkt]; exact .inl trivial
      · simp only [eget,if_neg hkt]; exact ih
theorem compOps_dst {ops : Array Oper} {ans : List (List Nat)} : ∀ (l : List Oper) (k : Nat) (al : List AOper),compOps P n ops ans l k = some al → (∀ o ∈ l, ∀ d,o.dst = some d → d < n) ∧ al.length = l.length
  | [],k,al,h => by simp only [compOps,Option.some.injEq] at h; subst h; exact ⟨by simp,rfl⟩
  | o :: l,k,al,h => by
    simp only [compOps] at h
    split at h
    · rename_i a b ha hb
      cases h
      obtain ⟨h1,h2⟩ := compOps_dst l (k + 1) b hb
      refine ⟨fun o' ho' d hd => ?_,by simp [h2]⟩
      rcases List.mem_cons.1 ho' with rfl | ho'
      · unfold compOper at ha
        split at ha
        · split at ha
          · rename_i hall; rw [hd] at hall; simpa using hall
          · cases ha
        · cases ha
      · exact h1 o' ho' d hd
    · cases h
theorem compOps_plain {ops : Array Oper} {ans : List (List Nat)} : ∀ (l : List Oper) (k : Nat) (al : List AOper),compOps P n ops ans l k = some al → ∀ o ∈ l, ∀ c,o.op ≠ .defer c
  | [],_,_,_ => by simp
  | o :: l,k,al,h => by
    simp only [compOps] at h
    split at h
    · rename_i a b ha hb
      intro o' ho' c
      rcases List.mem_cons.1 ho' with rfl | ho'
      · rintro hd
        unfold compOper at ha
        rw [hd] at ha
        cases ha
      · exact compOps_plain l (k + 1) b hb o' ho' c
    · cases h
theorem aw_region {dr : Bool} {ops : List AOper} {drop : List Nat} (h : ARun P dr s.nx (fun s' => Q .norm ⟨dropE s'.env drop,s'.hp,s.nx + 8 * ops.length⟩) ops 0 s []) : AWb rd P n pre (.region dr ops drop) Q s := fun code keep hc C a w hn hp hd hr => by
  cases code with
  | region id oa draw =>
    simp only [compCode] at hc
    split at hc
    · rename_i al hal
      split at hc
      · rename_i hcond
        cases hc
        obtain ⟨β,Z,hR,hβ⟩ := hr
        obtain ⟨hd',hlen⟩ := compOps_dst _ _ _ hal
        have hans : ∀ i j,j ∈ ((if dr = true then ancGo oa.toList [] else [])[i]?).getD [] → Anc .any oa i j := by
          intro i j hj
          cases dr with
          | true => exact ancGo_sound oa.toList [] (by simp) (by simp) i j hj
          | false => simp at hj
        refine wp_region_lift (base := s.nx) (Q := fun fs => ∃ s' : St,fs = s'.F ∧ s'.nx = s.nx ∧ Q .norm ⟨dropE s'.env _,s'.hp,s.nx + 8 * ops.length⟩) (fun hdr => hcond.resolve_left (by rw [hdr]; simp)) (fun o ho d hdd => hn ▸ hd' o (by simpa using ho) d hdd) (fun o ho => compOps_plain _ _ _ hal o (by simpa using ho)) ?_ hR hβ
          (arun_lex hans oa.toList ops 0 s [] _ hal (fun j ef hf => hf.elim) h)
        rintro fs a' w' β' Z' hR' hF ⟨s',rfl,_,hQ⟩
        refine ⟨_,hQ, β',Z',⟨hR'.size,hR'.defers,fun t => ?_,hR'.objs,hR'.inj,hR'.fr,hR'.z0,hR'.old,hR'.orig,hR'.ext,hR'.zlt⟩,fun g hg => ?_⟩
        · show Rep w' β' Z' _ (eget (dropE s'.env _) t)
          rcases get_drop s'.env _ t with h1 | h1
          · rw [h1]; exact hR'.env t
          · rw [h1]; exact .bot _
        · cases hb : β' g with
          | none => rfl
          | some B =>
            simp only at hg
            obtain ⟨j,hj,h1,h2⟩ := hF g (by omega) (by rw [hb]; simp)
            have : ops.length = oa.size := by rw [hlen]; simp
            omega
      · cases hc
    · cases hc
  | seq a b => simp only [compCode] at hc; split at hc <;> cases hc
  | cond c a b => simp only [compCode] at hc; split at hc <;> cases hc
  | block id a => simp [compCode] at hc
  | loop a => simp [compCode] at hc
  | rangeFunc x1 x2 x3 x4 => simp only [compCode] at hc; repeat' (first | (cases hc; done) | split at hc)
  | _ => cases hc
end
end Go.Proofs.YtbncpngjclabhaaGreat.Lift
namespace Go.Proofs.YtbncpngjclabhaaGreat.Lift
open Go Go.RowKit

inductive Ren (m : List (Nat × Nat)) : D → D → Prop
  | bot (d : D) : Ren m d .bot
  | val (v : Value) : Ren m (.val v) (.val v)
  | list (l : List (List D)) : Ren m (.list l) (.list l)
  | at_ (l : List D) : Ren m (.at_ l) (.at_ l)
  | cap0 : Ren m .cap0 .cap0
  | own (g g' off n sz : Nat) : m.lookup g' = some g → Ren m (.own g off n sz) (.own g' off n sz)
  | vec (g g' n sz : Nat) : m.lookup g' = some g → Ren m (.vec g n sz) (.vec g' n sz)
  | ptr (g g' off : Nat) : m.lookup g' = some g → Ren m (.ptr g off) (.ptr g' off)
  | agg (k l : List D) : k.length = l.length → (∀ i (h : i < k.length) (h' : i < l.length),Ren m k[i] l[i]) → Ren m (.agg k) (.agg l)
  | tup (k l : List D) : k.length = l.length → (∀ i (h : i < k.length) (h' : i < l.length),Ren m k[i] l[i]) → Ren m (.tup k) (.tup l)
  | fn (f : FuncId) (k l k' l' : List D) : k.length = k'.length → (∀ i (h : i < k.length) (h' : i < k'.length),Ren m k[i] k'[i]) → l.length = l'.length → (∀ i (h : i < l.length) (h' : i < l'.length),Ren m l[i] l'[i]) → Ren m (.fn f k l) (.fn f k' l')
  | yld (g g' : Nat) (r : Loop) (k k' : List D) : m.lookup g' = some g → k.length = k'.length → (∀ i (h : i < k.length) (h' : i < k'.length),Ren m k[i] k'[i]) → (∀ i (h : i < k.length) (h' : i < k'.length),noY 9 k[i] = true → noY 9 k'[i] = true) → Ren m (.yld g r k) (.yld g' r k')
  | yref (g g' : Nat) : m.lookup g' = some g → Ren m (.yref g) (.yref g')
  | mp (g g' : Nat) : m.lookup g' = some g → Ren m (.mp g) (.mp g')
  | flat (d : D) : In (fun _ => False) d → Ren m d d
theorem Ren.rep {w : World} {β β' : Bet} {Z : Blk} {m : List (Nat × Nat)} {v : Value} {d d' : D} (h : Ren m d d') (hm : ∀ g' g B,m.lookup g' = some g → β g = some B → β' g' = some B) (hv : Rep w β Z v d) : Rep w β' Z v d' := by
  induction h generalizing v with
  | bot d => exact .bot v
  | val u => have := hv.val_eq; subst this; exact .val _
  | list l =>
    cases hv with
    | list0 A c => exact .list0 A c
    | list b off c sz _ vs h1 h2 h3 h4 h5 h6 => exact .list b off c sz l vs h1 h2 h3 h4 h5 h6
  | at_ l =>
    cases hv with
    | at_ b off _ vs h1 h2 h3 h4 => exact .at_ b off l vs h1 h2 h3 h4
  | cap0 => cases hv; exact .cap0 _
  | own g g' off n sz hg =>
    cases hv with
    | own _ _ _ _ B cap e k h1 h2 h3 h4 h5 => exact .own g' off n sz B cap e k (hm _ _ _ hg h1) h2 h3 h4 h5
  | vec g g' n sz hg =>
    cases hv with
    | vec0 A => exact .vec0 A g' sz
    | vec _ _ _ B cap e k h1 h2 h3 h4 h5 => exact .vec g' n sz B cap e k (hm _ _ _ hg h1) h2 h3 h4 h5
  | ptr g g' off hg =>
    cases hv with
    | ptr _ _ B e n h1 h2 => exact .ptr g' off B e n (hm _ _ _ hg h1) h2
  | agg k l hl _ ih =>
    cases hv with
    | agg cs _ h1 h2 => exact .agg cs l (by omega) fun i hi => ih i (by omega) hi (h2 i (by omega))
  | tup k l hl _ ih =>
    cases hv with
    | tup cs _ h1 h2 => exact .tup cs l (by omega) fun i hi => ih i (by omega) hi (h2 i (by omega))
  | fn f k l k' l' hk _ hl _ ihk ihl =>
    cases hv with
    | fn _ us vs _ _ h1 h2 h3 h4 => exact .fn f us vs k' l' (by omega) (fun i hi => ihk i (by omega) hi (h2 i (by omega))) (by omega) (fun i hi => ihl i (by omega) hi (h4 i (by omega)))
  | yld g g' r k k' hg hl _ hn ih =>
    cases hv with
    | yld _ l _ _ h1 h2 h3 h4 h5 h6 => exact .yld g' l r k' (hm _ _ _ hg h1) h2 h3 h4 (fun i hi => ih i (by omega) hi (h5 i (by omega))) (fun i hi => (h6 i (by omega)).imp (hn i (by omega) hi) id)
  | yref g g' hg =>
    cases hv with
    | yref _ l h1 => exact .yref g' l (hm _ _ _ hg h1)
  | mp g g' hg =>
    cases hv with
    | mp _ B h1 h2 => exact .mp g' B (hm _ _ _ hg h1) h2
  | flat d hi => exact (hv.rename (β' := β0) hi fun g hg => hg.elim).up

def VwE (H : Heap) (V : List Nat) (env : Env) : Env → Prop
  | [] => True
  | x :: r => Vw H V (eget env x.1) x.2 ∧ VwE H V env r
def VwL (H : Heap) (V : List Nat) : List D → List D → Prop
  | [],[] => True
  | x :: r,y :: r' => Vw H V x y ∧ VwL H V r r'
  | _,_ => False
theorem VwL.get {H : Heap} {V : List Nat} : ∀ {c c' : List D},VwL H V c c' → c.length = c'.length ∧ ∀ i (h : i < c.length) (h' : i < c'.length),Vw H V c[i] c'[i]
  | [],[],_ => ⟨rfl,fun i h => by simp at h⟩
  | [],_ :: _,h => h.elim
  | _ :: _,[],h => h.elim
  | x :: r,y :: r',h => by
    obtain ⟨h1,h2⟩ := VwL.get h.2
    refine ⟨by simp [h1],fun i hi hi' => ?_⟩
    cases i with
    | zero => exact h.1
    | succ i => exact h2 i (by simpa using hi) (by simpa using hi')
theorem VwL.refl {H : Heap} {V : List Nat} : ∀ c : List D,VwL H V c c
  | [] => trivial
  | d :: c => ⟨.refl d,VwL.refl c⟩
def VwH (hp : Hp) (V : List Nat) (nx : Nat) : Hp → Prop
  | [] => True
  | x :: r => ((∃ c,hget hp x.1 = some c ∧ x.1 ∉ V ∧ VwL (hget hp) V c x.2) ∨ (x.2 = [] ∧ hget hp x.1 = none ∧ nx ≤ x.1)) ∧ VwH hp V nx r
theorem get_cons (k : Nat) (d : D) (r : Env) (t : Nat) : eget ((k,d) :: r) t = if k = t then d else eget r t := rfl
theorem VwE.get {H : Heap} {V : List Nat} {env : Env} : ∀ {env' : Env},VwE H V env env' → ∀ t,eget env' t = .bot ∨ Vw H V (eget env t) (eget env' t)
  | [],_,t => .inl rfl
  | (k,d) :: r,h,t => by
    rw [get_cons]
    split
    · rename_i hk; subst hk; exact .inr h.1
    · exact VwE.get h.2 t
theorem VwH.get {hp : Hp} {V : List Nat} {nx : Nat} : ∀ {hp' : Hp},VwH hp V nx hp' → ∀ g c',hget hp' g = some c' → ((∃ c,hget hp g = some c ∧ g ∉ V ∧ VwL (hget hp) V c c') ∨ (c' = [] ∧ hget hp g = none ∧ nx ≤ g))
  | [],_,g,c',h => by simp [hget] at h
  | (k,d) :: r,h,g,c',hc => by
    unfold hget at hc
    split at hc
    · rename_i hk; subst hk; cases hc; exact h.1
    · exact VwH.get h.2 g c' hc
theorem preB_live {C : Ctx} {β : Bet} {Z : Blk} {s : FSt} {a : Act} {w : World} (h : RelS C β Z s a w) {V : List Nat} (hpre : ∀ g0 ∈ C.pre,g0 ∉ V ∧ (s.H g0).isSome = true) {g B : Nat} {c : List D} (hg : g ∈ V) (hc : s.H g = some c) (hB : β g = some B) : ¬ (B < C.w0.heap.size ∧ C.Zl B) := by
  rintro ⟨hlt,hzl⟩
  rcases h.orig g c B hc hB with h1 | h1
  · omega
  · obtain ⟨g0,hg0,hb0⟩ := C.own B h1 hzl
    obtain ⟨h2,h3⟩ := hpre g0 hg0
    obtain ⟨c0,hc0⟩ := Option.isSome_iff_exists.1 h3
    have := h.inj g g0 c c0 B hc hc0 hB (h.ext g0 hg0 B hb0)
    subst this
    exact absurd hg h2
theorem wk_view {pre : List Nat} {s s' : St} (V : List Nat) (hE : VwE (hget s.hp) V s.env s'.env) (hH : VwH s.hp V s.nx s'.hp) (hV : ∀ g ∈ V, ∃ c,hget s.hp g = some c) (hpre : V = [] ∨ ∀ g0 ∈ pre,g0 ∉ V ∧ (hget s.hp g0).isSome = true) (hn : s.nx ≤ s'.nx) : Wk pre s s' := by
  rintro C a w rfl ⟨β,Z,h,hβ⟩
  have hobj : ∀ g c,g ∈ V → hget s.hp g = some c → Holds w β Z g c := fun g c _ hc => h.objs g c hc
  have hgone : ∀ g B,g ∈ V → β g = some B → ¬ (B < C.w0.heap.size ∧ C.Zl B) := fun g B hg hB => by
    obtain ⟨c,hc⟩ := hV g hg
    rcases hpre with rfl | hpre
    · simp at hg
    · exact preB_live h hpre hg hc hB
  refine ⟨β,fun b => Z b ∧ ¬ ∃ g ∈ V, β g = some b,⟨h.size,⟨h.defers.1,fun d hd => (h.defers.2 d hd).mono (Fr.refl (fun _ => False) w) (fun _ _ h => h.elim) (fun _ _ h => h.1)⟩,fun t => ?_,fun g c' hc' => ?_,fun g g' c c' B hc hc' hb hb' => ?_,h.fr,fun b hb hz => ⟨h.z0 b hb hz,?_⟩,fun b hb hz => h.old b hb hz.1,fun g c' B hc' hB => ?_,h.ext,fun b hz => h.zlt b hz.1⟩,fun g hg => hβ g (by omega)⟩
  · show Rep w β _ _ (eget s'.env t)
    rcases hE.get t with h1 | h1
    · rw [h1]; exact .bot _
    · exact h1.rep (h.env t) hobj
  · rcases hH.get g c' hc' with ⟨c,hc,hgV,hl⟩ | ⟨rfl,hnone,hge⟩
    · obtain ⟨h1,h2⟩ := hl.get
      rcases h.objs g c hc with ⟨h3,h4⟩ | ⟨B,cs,e,hO⟩
      · subst h3
        have : c' = [] := List.length_eq_zero_iff.1 (by simpa using h1.symm)
        exact .inl ⟨this,h4⟩
      · refine .inr ⟨B,cs,e,hO.at_,⟨hO.ours,?_⟩,hO.blk,by have := hO.fits; omega,fun i hi => (h2 i (by omega) hi).rep (hO.rep i (by omega)) hobj⟩
        rintro ⟨g',hg',hb'⟩
        obtain ⟨c2,hc2⟩ := hV g' hg'
        have := h.inj g g' c c2 B hc hc2 hO.at_ hb'
        subst this
        exact hgV hg'
    · exact .inl ⟨rfl,hβ g hge⟩
  · have live : ∀ g c,hget s'.hp g = some c → ∀ B, β g = some B → ∃ c0,hget s.hp g = some c0 := fun g c hc B hb => by
      rcases hH.get g c hc with ⟨c,hc,_⟩ | ⟨_,_,hge⟩
      · exact ⟨c,hc⟩
      · rw [hβ g hge] at hb; cases hb
    obtain ⟨c1,h1⟩ := live g c hc B hb
    obtain ⟨c2,h2⟩ := live g' c' hc' B hb'
    exact h.inj g g' c1 c2 B h1 h2 hb hb'
  · rintro ⟨g,hg,hB⟩
    exact hgone g b hg hB ⟨hb,hz⟩
  · rcases hH.get g c' hc' with ⟨c,hc,_⟩ | ⟨_,_,hge⟩
    · exact h.orig g c B hc hB
    · rw [hβ g hge] at hB; cases hB

def RenE (m : List (Nat × Nat)) (env : Env) : Env → Prop
  | [] => True
  | x :: r => Ren m (eget env x.1) x.2 ∧ RenE m env r
def RenL (m : List (Nat × Nat)) : List D → List D → Prop
  | [],[] => True
  | x :: r,y :: r' => Ren m x y ∧ RenL m r r'
  | _,_ => False
theorem RenL.get {m : List (Nat × Nat)} : ∀ {c c' : List D},RenL m c c' → c.length = c'.length ∧ ∀ i (h : i < c.length) (h' : i < c'.length),Ren m c[i] c'[i]
  | [],[],_ => ⟨rfl,fun i h => by simp at h⟩
  | [],_ :: _,h => h.elim
  | _ :: _,[],h => h.elim
  | x :: r,y :: r',h => by
    obtain ⟨h1,h2⟩ := RenL.get h.2
    refine ⟨by simp [h1],fun i hi hi' => ?_⟩
    cases i with
    | zero => exact h.1
    | succ i => exact h2 i (by simpa using hi) (by simpa using hi')
theorem RenL.flat {m : List (Nat × Nat)} : ∀ c : List D,(∀ d ∈ c,In (fun _ => False) d) → RenL m c c
  | [],_ => trivial
  | d :: c,h => ⟨.flat d (h d (List.mem_cons_self ..)),RenL.flat c fun x hx => h x (List.mem_cons_of_mem _ hx)⟩
def RenH (m : List (Nat × Nat)) (hp : Hp) : Hp → Prop
  | [] => True
  | x :: r => (∃ g c,m.lookup x.1 = some g ∧ hget hp g = some c ∧ RenL m c x.2) ∧ RenH m hp r
theorem RenE.get {m : List (Nat × Nat)} {env : Env} : ∀ {env' : Env},RenE m env env' → ∀ t,eget env' t = .bot ∨ Ren m (eget env t) (eget env' t)
  | [],_,t => .inl rfl
  | (k,d) :: r,h,t => by
    rw [get_cons]
    split
    · rename_i hk; subst hk; exact .inr h.1
    · exact RenE.get h.2 t
theorem RenH.get {m : List (Nat × Nat)} {hp : Hp} : ∀ {hp' : Hp},RenH m hp hp' → ∀ g' c',hget hp' g' = some c' → ∃ g c,m.lookup g' = some g ∧ hget hp g = some c ∧ RenL m c c'
  | [],_,g,c',h => by simp [hget] at h
  | (k,d) :: r,h,g,c',hc => by
    unfold hget at hc
    split at hc
    · rename_i hk; subst hk; cases hc; exact h.1
    · exact RenH.get h.2 g c' hc
def okRen (m : List (Nat × Nat)) (pre : List Nat) (nx : Nat) : Bool := pre.all (fun g => m.lookup g == some g) && m.all fun x => decide (x.1 < nx) && m.all fun y => !(x.2 == y.2) || x.1 == y.1
theorem lookup_mem {m : List (Nat × Nat)} {a b : Nat} (h : m.lookup a = some b) : (a,b) ∈ m := by
  induction m with
  | nil => simp at h
  | cons x r ih =>
    obtain ⟨k,v⟩ := x
    rw [List.lookup_cons] at h
    split at h
    · rename_i hk
      have : a = k := by simpa using hk
      subst this; cases h; exact List.mem_cons_self ..
    · exact List.mem_cons_of_mem _ (ih h)
theorem okRen.inj {m : List (Nat × Nat)} {pre : List Nat} {nx : Nat} (h : okRen m pre nx = true) {a a' b : Nat} (h1 : m.lookup a = some b) (h2 : m.lookup a' = some b) : a = a' := by
  simp only [okRen,Bool.and_eq_true,List.all_eq_true] at h
  have := (h.2 _ (lookup_mem h1)).2 _ (lookup_mem h2)
  simpa using this
theorem okRen.lt {m : List (Nat × Nat)} {pre : List Nat} {nx : Nat} (h : okRen m pre nx = true) {a b : Nat} (h1 : m.lookup a = some b) : a < nx := by
  simp only [okRen,Bool.and_eq_true,List.all_eq_true] at h
  have := (h.2 _ (lookup_mem h1)).1
  simpa using this
theorem okRen.pre {m : List (Nat × Nat)} {pre : List Nat} {nx : Nat} (h : okRen m pre nx = true) {g : Nat} (hg : g ∈ pre) : m.lookup g = some g := by
  simp only [okRen,Bool.and_eq_true,List.all_eq_true] at h
  simpa using h.1 g hg
theorem wk_ren {pre : List Nat} {s s' : St} (m : List (Nat × Nat)) (hok : okRen m pre s'.nx = true) (hE : RenE m s.env s'.env) (hH : RenH m s.hp s'.hp) : Wk pre s s' := by
  rintro C a w rfl ⟨β,Z,h,hβ⟩
  have hm : ∀ g' g B,m.lookup g' = some g → β g = some B → (fun g' => (m.lookup g').bind β) g' = some B := fun g' g B h1 h2 => by simp [h1,h2]
  refine ⟨fun g' => (m.lookup g').bind β,Z,⟨h.size,h.defers,fun t => ?_,fun g' c' hc' => ?_,fun g g' c c' B hc hc' hb hb' => ?_,h.fr,h.z0,h.old,fun g' c' B hc' hB => ?_,fun g hg B hB => ?_,h.zlt⟩,fun g hg => ?_⟩
  · show Rep w _ Z _ (eget s'.env t)
    rcases hE.get t with h1 | h1
    · rw [h1]; exact .bot _
    · exact h1.rep hm (h.env t)
  · obtain ⟨g,c,hg,hc,hl⟩ := hH.get g' c' hc'
    obtain ⟨h1,h2⟩ := hl.get
    rcases h.objs g c hc with ⟨h3,h4⟩ | ⟨B,cs,e,hO⟩
    · subst h3
      have : c' = [] := List.length_eq_zero_iff.1 (by simpa using h1.symm)
      exact .inl ⟨this,by simp [hg,h4]⟩
    · exact .inr ⟨B,cs,e,hm g' g B hg hO.at_,hO.ours,hO.blk,by have := hO.fits; omega,fun i hi => (h2 i (by omega) hi).rep hm (hO.rep i (by omega))⟩
  · obtain ⟨g1,c1,hg1,hc1,_⟩ := hH.get g c hc
    obtain ⟨g2,c2,hg2,hc2,_⟩ := hH.get g' c' hc'
    simp only [hg1,hg2,Option.bind_some] at hb hb'
    have := h.inj g1 g2 c1 c2 B hc1 hc2 hb hb'
    subst this
    exact okRen.inj hok hg1 hg2
  · obtain ⟨g,c,hg,hc,_⟩ := hH.get g' c' hc'
    simp only [hg,Option.bind_some] at hB
    exact h.orig g c B hc hB
  · have := okRen.pre hok hg
    simp [this,h.ext g hg B hB]
  · cases hl : m.lookup g with
    | none => simp [hl]
    | some g0 => have := okRen.lt hok hl; omega
end Go.Proofs.YtbncpngjclabhaaGreat.Lift
namespace Go.Proofs.YtbncpngjclabhaaGreat.Lift
open Go Go.RowKit

inductive AResV where
  | tmp (t : Nat)
  | cell1 (a : Nat)
  | cellN (a n : Nat)
def compRes (P : Program) : ResultVar → Option AResV
  | .tmp t => some (.tmp t)
  | .cell a t => match P.underlying t,P.info? t with
    | some td,some _ => if aggT td = true then (if P.cellsOf t = 0 then none else some (.cellN a (P.cellsOf t))) else some (.cell1 a)
    | _,_ => none
def resD1 (s : St) : AResV → Option D
  | .tmp t => some (eget s.env t)
  | .cell1 a => match eget s.env a with
    | .ptr g off => match hget s.hp g with
      | some c => c[off]?
      | none => none
    | _ => none
  | .cellN a n => match eget s.env a with
    | .ptr g off => match hget s.hp g with
      | some c => if off + n ≤ c.length then some (.agg ((c.drop off).take n)) else none
      | none => none
    | _ => none
def resL (s : St) : List AResV → Option (List D)
  | [] => some []
  | r :: l => match resD1 s r,resL s l with
    | some a,some b => some (a :: b)
    | _,_ => none
def resD (rs : List AResV) (s : St) : Option D := match resL s rs with
  | some [d] => some d
  | some l => some (.tup l)
  | none => none
section
variable {P : Program}
theorem res1_sound {C : Ctx} {β : Bet} {Z : Blk} {s : St} {a : Act} {w : World} (h : RelS C β Z s.F a w) {r : ResultVar} {ar : AResV} {d : D} (hc : compRes P r = some ar) (hd : resD1 s ar = some d) :
    ∃ v,((match r with | .tmp t => pure (a.tmps.getD t undef) | .cell x t => do loadVar t (← asAddr (a.tmps.getD x undef)) : Sem Value)).run P w = .ok v w ∧ Rep w β Z v d := by
  have env : ∀ t,Rep w β Z (a.tmps.getD t undef) (eget s.env t) := h.env
  have obj : ∀ g c,hget s.hp g = some c → Holds w β Z g c := h.objs
  cases r with
  | tmp t =>
    cases hc
    simp only [resD1,Option.some.injEq] at hd
    subst hd
    exact ⟨_,rfl,env t⟩
  | cell x t =>
    simp only [compRes] at hc
    split at hc
    · rename_i td ti hu hi
      have e := env x
      split at hc
      · rename_i hag
        split at hc
        · cases hc
        · rename_i h0
          cases hc
          simp only [resD1] at hd
          split at hd
          · rename_i g off hx
            rw [hx] at e
            split at hd
            · rename_i c hcc
              split at hd
              · rename_i hle
                cases hd
                have hne : c ≠ [] := by rintro rfl; simp at hle; omega
                obtain ⟨B,cs,ety,e',n',e1,hb,hO,hsh⟩ := at_ptr e (obj g c hcc) hne
                refine ⟨.agg ((List.range (P.cellsOf t)).map fun j => cs.getD (off + j) undef).toArray,?_,?_⟩
                · have hld := run_loads (P := P) w B off (P.cellsOf t) (fun j => cs.getD (off + j) undef) (fun j hj => hO.cell hsh (off + j) (by omega))
                  simp only [e1,asAddr,Sem.run_bind,Sem.run_pure,Result.andThen_ok,loadVar,isAgg_of hu,hag,if_true,run_sizeOf w hi,hld]
                · have := rep_range (w := w) (β := β) (Z := Z) (fun j => cs.getD (off + j) undef) (P.cellsOf t) ((c.drop off).take (P.cellsOf t)) (by simp; omega) (fun i hi => by
                    have hi' : off + i < c.length := by simp at hi; omega
                    simp only [List.getElem_take,List.getElem_drop]
                    exact hO.rep (off + i) hi')
                  exact .agg _ _ this.1 this.2
              · cases hd
            · cases hd
          · cases hd
      · rename_i hag
        cases hc
        simp only [resD1] at hd
        split at hd
        · rename_i g off hx
          rw [hx] at e
          split at hd
          · rename_i c hcc
            obtain ⟨B,cs,ety,e',n',e1,hb,hO,hsh⟩ := at_ptr e (obj g c hcc) (getElem?_ne hd)
            obtain ⟨hlt,rfl⟩ := List.getElem?_eq_some_iff.1 hd
            have hag' : aggT td = false := by simpa using hag
            refine ⟨cs.getD off undef,?_,hO.rep off hlt⟩
            simp only [e1,asAddr,Sem.run_bind,Sem.run_pure,Result.andThen_ok,loadVar,isAgg_of hu,hag',Bool.false_eq_true,if_false,run_load,hO.cell hsh off hlt]
          · cases hd
        · cases hd
    · cases hc
theorem res_sound {C : Ctx} {β : Bet} {Z : Blk} {s : St} {a : Act} {w : World} (h : RelS C β Z s.F a w) {fn : Func} {rs : List AResV} {d : D} (hc : fn.results.toList.mapM (compRes P) = some rs) (hd : resD rs s = some d) :
    ∃ v,(results fn a.tmps).run P w = .ok v w ∧ Rep w β Z v d := by
  have key : ∀ (l : List ResultVar) (rs : List AResV) (ds : List D),l.mapM (compRes P) = some rs → resL s rs = some ds → ∃ vs : List Value,(l.mapM (fun r => (match r with | .tmp t => pure (a.tmps.getD t undef) | .cell x t => do loadVar t (← asAddr (a.tmps.getD x undef)) : Sem Value))).run P w = .ok vs w ∧ vs.length = ds.length ∧ ∀ i (h : i < vs.length) (h' : i < ds.length),Rep w β Z vs[i] ds[i] := by
    intro l
    induction l with
    | nil =>
      intro rs ds h1 h2
      simp at h1; subst h1
      simp only [resL,Option.some.injEq] at h2; subst h2
      exact ⟨[],rfl,rfl,fun i h => by simp at h⟩
    | cons r l ih =>
      intro rs ds h1 h2
      rw [List.mapM_cons] at h1
      simp only [bind,Option.bind_eq_some_iff,pure,Option.some.injEq] at h1
      obtain ⟨ar,hr,rs',hrs,rfl⟩ := h1
      simp only [resL] at h2
      split at h2
      · rename_i x y hx hy
        cases h2
        obtain ⟨v,e1,e2⟩ := res1_sound h hr hx
        obtain ⟨vs,e3,e4,e5⟩ := ih rs' y hrs hy
        refine ⟨v :: vs,?_,by simp [e4],fun i hi hi' => ?_⟩
        · rw [List.mapM_cons]
          simp only [Sem.run_bind,e1,Result.andThen_ok,e3,Sem.run_pure]
        · cases i with
          | zero => exact e2
          | succ i => exact e5 i (by simpa using hi) (by simpa using hi')
      · cases h2
  unfold resD at hd
  have fin : ∀ ds,resL s rs = some ds → ∃ vs : List Value,vs.length = ds.length ∧ (∀ i (h : i < vs.length) (h' : i < ds.length),Rep w β Z vs[i] ds[i]) ∧ (results fn a.tmps).run P w = .ok (if h : vs.toArray.size = 1 then vs.toArray[0] else .tuple vs.toArray) w := by
    intro ds hds
    obtain ⟨vs,e1,e2,e3⟩ := key _ _ _ hc hds
    refine ⟨vs,e2,e3,?_⟩
    unfold results
    rw [Array.mapM_eq_mapM_toList]
    simp only [Sem.run_bind,Sem.run_map,Sem.run_pure]
    exact congrArg (fun r : Result (List Value) => (r.andThen fun a w' => Result.ok a.toArray w').andThen fun a w' => Result.ok (if h : a.size = 1 then a[0] else Value.tuple a) w') e1
  split at hd
  · rename_i x hx
    cases hd
    obtain ⟨vs,e1,e2,e3⟩ := fin _ hx
    match vs,e1 with
    | [v],_ => exact ⟨v,by rw [e3]; rfl,e2 0 (by simp) (by simp)⟩
  · rename_i l hne hl
    cases hd
    obtain ⟨vs,e1,e2,e3⟩ := fin _ hl
    have h1 : ¬ vs.toArray.size = 1 := by
      intro h
      have : l.length = 1 := by rw [← e1]; simpa using h
      obtain ⟨x,rfl⟩ := List.length_eq_one_iff.1 this
      exact hne x rfl
    refine ⟨_,e3,?_⟩
    rw [dif_neg h1]
    refine .tup _ _ (by simpa using e1) fun i hi => ?_
    have hi' : i < vs.length := by omega
    rw [show vs.toArray.getD i undef = vs[i] by simp [hi']]
    exact e2 i hi' hi
  · cases hd

/-! ### a loop's book-keeping in memory -/
theorem putObj_fr {w : World} {B : Nat} {o o' : Obj} (h : w.heap[B]? = some o) (h1 : ∀ cs e f,o ≠ .cells cs e f) (h2 : ∀ cs e f,o' ≠ .cells cs e f) (h3 : ∀ e n,o ≠ .map e n := by simp) (h4 : ∀ e n,o' ≠ .map e n := by simp) : Fr (fun b => b = B) w (w.putObj B o') where
  os := rfl
  tape := rfl
  output := rfl
  size := by simp
  same := fun b _ hn => World.putObj_heap_other hn
  knd := fun b hb => by
    by_cases he : b = B
    · subst he
      simp only [kind?,World.putObj_heap_same hb,h]
      cases o <;> cases o' <;> first | rfl | exact absurd rfl (h1 _ _ _) | exact absurd rfl (h2 _ _ _) | exact absurd rfl (h3 _ _) | exact absurd rfl (h4 _ _)
    · simp only [kind?,World.putObj_heap_other he]
theorem Rep.off {w w2 : World} {B : Nat} {o : Obj} (h1 : w.heap[B]? = some o) (hc : ∀ cs e f,o ≠ .cells cs e f) (hmm : ∀ e n,o ≠ .map e n) (ho : ∀ r,o ≠ .loop r) (hsz : w2.heap.size = w.heap.size) (hne : ∀ b,b ≠ B → w2.heap[b]? = w.heap[b]?) {β : Bet} {Z : Blk} {v : Value} {d : D}
    (h : Rep w β Z v d) : Rep w2 β Z v d := by
  have hcell : ∀ b o' u,w.cell? ⟨b,o',none⟩ = some u → w2.cell? ⟨b,o',none⟩ = some u := fun b o' u hu => by
    have hb : b ≠ B := by
      rintro rfl
      simp only [World.cell?,h1] at hu
      cases o <;> first | exact absurd rfl (hc _ _ _) | simp at hu
    rw [← hu]
    simp only [World.cell?,hne b hb]
  have hshp : ∀ b e n,w.shape? b = some (e,n) → w2.shape? b = some (e,n) := fun b e n hu => by
    have hb : b ≠ B := by
      rintro rfl
      simp only [World.shape?,h1] at hu
      cases o <;> first | exact absurd rfl (hc _ _ _) | simp at hu
    rw [← hu]
    simp only [World.shape?,hne b hb]
  induction h with
  | bot v => exact .bot v
  | val v => exact .val v
  | agg cs l hl _ ih => exact .agg cs l hl ih
  | tup cs l hl _ ih => exact .tup cs l hl ih
  | list0 A c => exact .list0 A c
  | list b off c sz l vs hz hb hc' hs hce _ ih => exact .list b off c sz l vs hz (by omega) hc' hs (fun k j hk hj => hcell _ _ _ (hce k j hk hj)) ih
  | at_ b off l vs hz hb hce _ ih => exact .at_ b off l vs hz (by omega) (fun j hj => hcell _ _ _ (hce j hj)) ih
  | own g off len sz B cap e n hg hB hlen hs hn => exact .own g off len sz B cap e n hg (by omega) hlen (hshp _ _ _ hs) hn
  | cap0 A => exact .cap0 A
  | ptr g off B e n hg hs => exact .ptr g off B e n hg (hshp _ _ _ hs)
  | vec0 A g sz => exact .vec0 A g sz
  | vec g len sz B cap e n hg hB hlen hs hn => exact .vec g len sz B cap e n hg (by omega) hlen (hshp _ _ _ hs) hn
  | fn f us vs k l hk _ hl _ ihk ihl => exact .fn f us vs k l hk ihk hl ihl
  | yld g l r k hg hl hz hb _ hs ih =>
    have : l ≠ B := by rintro rfl; rw [h1] at hb; cases hb; exact ho _ rfl
    exact .yld g l r k hg (by omega) hz ((hne l this).trans hb) ih hs
  | yref g l hg => exact .yref g l hg
  | mp g B0 hg hs =>
    refine .mp g B0 hg ?_
    have : B0 ≠ B := by
      rintro rfl
      simp only [kind?,h1] at hs
      cases o <;> first | exact absurd rfl (hc _ _ _) | exact absurd rfl (hmm _ _) | simp at hs
    simp only [kind?,hne _ this] at hs ⊢
    exact hs
theorem ObjRep.swap {w w2 : World} {β : Bet} {Z : Blk} {g B0 B : Nat} {c : List D} {cs : Array Value} {e : TypeId} {o : Obj} (h : ObjRep w β Z g c B0 cs e) (h1 : w.heap[B]? = some o) (hc : ∀ cs e f,o ≠ .cells cs e f) (hmm : ∀ e n,o ≠ .map e n) (hne : ∀ b,b ≠ B → w2.heap[b]? = w.heap[b]?)
    (hr : ∀ v d,d ∈ c → Rep w β Z v d → Rep w2 β Z v d) : ObjRep w2 β Z g c B0 cs e := by
  have : B0 ≠ B := by
    rintro rfl
    rcases h.blk with h2 | ⟨_,_,h2,_⟩
    · rw [h1] at h2; cases h2; exact hc _ _ _ rfl
    · rw [h1] at h2; cases h2; exact hmm _ _ rfl
  exact ⟨h.at_,h.ours,h.blk.trans (hne _ this),h.fits,fun i hi => hr _ _ (List.getElem_mem hi) (h.rep i hi)⟩
theorem RelS.shut {C : Ctx} {β : Bet} {Z : Blk} {s : FSt} {a : Act} {w : World} {B : Nat} {ds : List Deferred} (h : RelS C β Z s a w) (ha : a.defers = { target := .collected B,args := #[] } :: ds) :
    ∃ w2,(Instr.takeDeferred B).run P w = .ok [] w2 ∧ RelS C β Z s { a with defers := ds } w2 := by
  have h0 := h.defers
  rw [ha] at h0
  obtain ⟨hnd,hmk⟩ := h0
  obtain ⟨_,B',he,hlo,hz,hlt,hb⟩ := hmk _ (List.mem_cons_self ..)
  cases he
  have hne : ∀ b,b ≠ B → (w.putObj B (.deferred none)).heap[b]? = w.heap[b]? := fun b hb => World.putObj_heap_other hb
  have hoff : ∀ {v d},Rep w β Z v d → Rep (w.putObj B (.deferred none)) β Z v d := fun hv => hv.off hb (by simp) (by simp) (by simp) (by simp) hne
  refine ⟨_,run_takeDeferred hb,⟨h.size,⟨(List.nodup_cons.1 hnd).2,fun d hd => ?_⟩,fun t => hoff (h.env t),fun g c hc => ?_,h.inj,?_,h.z0,h.old,h.orig,h.ext,fun b hb => by simpa using h.zlt b hb⟩⟩
  · obtain ⟨hp,B',he,h1,h2,h3,h4⟩ := hmk d (List.mem_cons_of_mem _ hd)
    have : B' ≠ B := by rintro rfl; rw [he] at hd; exact (List.nodup_cons.1 hnd).1 hd
    exact ⟨hp,B',he,h1,h2,by simpa using h3,(hne _ this).trans h4⟩
  · exact (h.objs g c hc).imp id fun ⟨B0,cs,e,hO⟩ => ⟨B0,cs,e,hO.swap hb (by simp) (by simp) hne fun _ _ _ hv => hoff hv⟩
  · refine h.fr.trans (putObj_fr hb (by simp) (by simp)) fun i hi he => ?_
    subst he; simp only at hlo; omega
theorem RelS.leaves {C : Ctx} {β : Bet} {Z : Blk} {s : FSt} {fn : Func} {R : Ending → World → Prop} : ∀ (ds : List Deferred) (a : Act) (w : World),a.defers = ds → RelS C β Z s a w → (∀ a' w',a'.tmps = a.tmps → a'.defers = [] → RelS C β Z s a' w' → ∃ v,(results fn a.tmps).run P w' = .ok v w' ∧ R (.returned v) w') →
    LeavesInM Fence.wide 0 P fn a.tmps R ds .returning w
  | [],a,w,hd,h,k => k a w rfl hd h
  | d :: ds,a,w,hd,h,k => by
    obtain ⟨_,B,he,_⟩ := h.defers.2 d (by rw [hd]; exact List.mem_cons_self ..)
    subst he
    obtain ⟨w2,h1,h2⟩ := h.shut (P := P) hd
    exact ⟨by simp,.inl ⟨B,w2,rfl,h1,RelS.leaves ds { a with defers := ds } w2 rfl h2 fun a' w' ht he hr => k a' w' ht he hr⟩⟩

def envOf : Nat → List D → Env
  | _,[] => []
  | k,d :: l => (k,d) :: envOf (k + 1) l
theorem get_envOf : ∀ (l : List D) (k t : Nat),eget (envOf k l) t = if h : k ≤ t ∧ t - k < l.length then l[t - k]'h.2 else .bot
  | [],k,t => by simp [envOf,eget]
  | d :: l,k,t => by
    unfold envOf
    rw [get_cons,get_envOf l (k + 1) t]
    by_cases h1 : k = t
    · subst h1; simp
    · rw [if_neg h1]
      by_cases h2 : k + 1 ≤ t ∧ t - (k + 1) < l.length
      · rw [dif_pos h2,dif_pos (by simp; omega)]
        have : t - k = (t - (k + 1)) + 1 := by omega
        simp only [this,List.getElem_cons_succ]
      · rw [dif_neg h2,dif_neg (by simp; omega)]
def okUp (h : Hp) (up : Ups) : Bool := (h.all fun x => !x.2.isEmpty && (up.map (·.1)).contains x.1) && (up.all fun x => x.2.isSome || (h.map (·.1)).contains x.1) && decide (up.map (·.1)).Nodup && decide (h.map (·.1)).Nodup
def okEnd (m : List (Nat × Nat)) (h : Hp) (up : Ups) : Bool := m.all fun x => (up.map (·.1)).contains x.1 && (!(h.map (·.1)).contains x.1 || x.1 == x.2) && m.all fun y => !(x.2 == y.2) || x.1 == y.1
def EndH (s : St) (m : List (Nat × Nat)) (V : List Nat) : Ups → Prop
  | [] => True
  | (g,some c') :: r => (∃ o c c1,m.lookup g = some o ∧ hget s.hp o = some c ∧ o ∉ V ∧ VwL (hget s.hp) V c c1 ∧ RenL m c1 c') ∧ EndH s m V r
  | (_,none) :: r => EndH s m V r
def endQ (rs : List AResV) (h : Hp) (up : Ups) (d : D) : AExit → St → Prop := fun e s => (e = .norm ∨ e = .ret) ∧
  ∃ d0 V d1 m,resD rs s = some d0 ∧ Vw (hget s.hp) V d0 d1 ∧ Ren m d1 d ∧ (∀ g ∈ V, ∃ c,hget s.hp g = some c) ∧ (V = [] ∨ ∀ g0 ∈ h.map (·.1),g0 ∉ V ∧ (hget s.hp g0).isSome = true) ∧ okEnd m h up = true ∧ EndH s m V up
theorem EndH.get {s : St} {m : List (Nat × Nat)} {V : List Nat} : ∀ {up : Ups},EndH s m V up → ∀ g c',(g,some c') ∈ up → ∃ o c c1,m.lookup g = some o ∧ hget s.hp o = some c ∧ o ∉ V ∧ VwL (hget s.hp) V c c1 ∧ RenL m c1 c'
  | [],_,g,c',h => by simp at h
  | (k,some c0) :: r,h,g,c',hm => by
    rcases List.mem_cons.1 hm with h1 | h1
    · cases h1; exact h.1
    · exact EndH.get h.2 g c' h1
  | (k,none) :: r,h,g,c',hm => by
    rcases List.mem_cons.1 hm with h1 | h1
    · cases h1
    · exact EndH.get (up := r) h g c' h1
theorem hget_mem {h : Hp} {g : Nat} {c : List D} (hc : hget h g = some c) : (g,c) ∈ h := by
  induction h with
  | nil => simp [hget] at hc
  | cons x r ih =>
    obtain ⟨k,v⟩ := x
    unfold hget at hc
    split at hc
    · rename_i hk; subst hk; cases hc; exact List.mem_cons_self ..
    · exact List.mem_cons_of_mem _ (ih hc)

theorem upH_some {H : Heap} {up : Ups} {g : Nat} {c : List D} (hg : g ∈ up.map (·.1)) (h : upH H up g = some c) : (g,some c) ∈ up := by
  unfold upH at h
  split at h
  · rename_i y hy
    have h1 := List.mem_of_find?_eq_some hy
    have h2 := List.find?_some hy
    simp only [beq_iff_eq] at h2
    obtain ⟨k,v⟩ := y
    simp only at h h2
    subst h; subst h2
    exact h1
  · rename_i hy
    obtain ⟨x,hx,rfl⟩ := List.mem_map.1 hg
    have := List.find?_eq_none.1 hy x hx
    simp at this
theorem post_of_end {C : Ctx} {w : World} {β : Bet} {Z : Blk} {H : Heap} {h : Hp} {up : Ups} {d : D} (hC1 : C.w0 = w) (hC2 : C.pre = h.map (·.1)) (hC3 : C.Z0 = Z) (hC4 : C.β0 = β) (hC5 : C.Zl = Z) (hC6 : ∀ b,C.preB b → ∃ g ∈ C.pre,C.β0 g = some b) (hup : okUp h up = true)
    (hh : ∀ x ∈ h,H x.1 = some x.2) (hfr : ∀ g ∈ up.map (·.1),g ∉ h.map (·.1) → H g = none) (hp : PreOp w β Z H ⟨d,h.map (·.1),up⟩) {s : St} {a : Act} {w' : World} {βe : Bet} {Ze : Blk} {v : Value} {d0 d1 : D} {V : List Nat} {m : List (Nat × Nat)}
    (hS : RelS C βe Ze s.F a w') (hrep : Rep w' βe Ze v d0) (hvw : Vw (hget s.hp) V d0 d1) (hren : Ren m d1 d) (hV : ∀ g ∈ V, ∃ c,hget s.hp g = some c) (hpre : V = [] ∨ ∀ g0 ∈ h.map (·.1),g0 ∉ V ∧ (hget s.hp g0).isSome = true)
    (hok : okEnd m h up = true) (hE : EndH s m V up) : Post w β Z H ⟨d,h.map (·.1),up⟩ v w' := by
  simp only [okUp,Bool.and_eq_true,List.all_eq_true,decide_eq_true_eq] at hup
  obtain ⟨⟨⟨u1,u2⟩,u3⟩,u4⟩ := hup
  rw [← hC2] at hpre
  have hmem : ∀ g,g ∈ h.map (·.1) → ∃ c,(g,c) ∈ h ∧ H g = some c ∧ c ≠ [] ∧ g ∈ up.map (·.1) := fun g hg => by
    obtain ⟨x,hx,rfl⟩ := List.mem_map.1 hg
    have := u1 _ hx
    exact ⟨x.2,hx,hh x hx,by rintro he; simp [he] at this,by simpa using this.2⟩
  have hreal : ∀ g,g ∈ h.map (·.1) → ∃ c B cs e,H g = some c ∧ ObjRep w β Z g c B cs e := fun g hg => by
    obtain ⟨c,h1,h2,h3,_⟩ := hmem g hg
    rcases hp.objs g c (.inl hg) h2 with ⟨h4,_⟩ | ⟨B,cs,e,hO⟩
    · exact absurd h4 h3
    · exact ⟨c,B,cs,e,h2,hO⟩
  subst hC1 hC3 hC4
  simp only [okEnd,List.all_eq_true,Bool.and_eq_true] at hok
  have k1 : ∀ g o,m.lookup g = some o → g ∈ up.map (·.1) ∧ (g ∈ h.map (·.1) → g = o) := fun g o hg => by
    have := (hok _ (lookup_mem hg)).1
    simp only [Bool.or_eq_true,Bool.not_eq_true'] at this
    refine ⟨by simpa using this.1,fun hgh => ?_⟩
    rcases this.2 with h1 | h1
    · exfalso; rw [List.contains_eq_mem] at h1; simp only [decide_eq_false_iff_not] at h1; exact h1 hgh
    · simpa using h1
  have k2 : ∀ g g' o,m.lookup g = some o → m.lookup g' = some o → g = g' := fun g g' o h1 h2 => by
    have := (hok _ (lookup_mem h1)).2 _ (lookup_mem h2)
    simpa using this
  let βf : Bet := fun g => if g ∈ h.map (·.1) ∨ g ∉ up.map (·.1) then C.β0 g else (m.lookup g).bind βe
  have hext : ∀ g ∈ h.map (·.1), ∀ B,C.β0 g = some B → βe g = some B := fun g hg => hS.ext g (hC2 ▸ hg)
  have f1 : ∀ g,g ∈ h.map (·.1) → βf g = C.β0 g := fun g hg => if_pos (.inl hg)
  have f2 : ∀ g,g ∈ up.map (·.1) → g ∉ h.map (·.1) → βf g = (m.lookup g).bind βe := fun g h1 h2 => if_neg (by rintro (h3 | h3); exact h2 h3; exact h3 h1)
  have hm : ∀ g' g B,m.lookup g' = some g → βe g = some B → βf g' = some B := fun g' g B h1 h2 => by
    obtain ⟨k3,k4⟩ := k1 g' g h1
    by_cases hg : g' ∈ h.map (·.1)
    · obtain rfl := k4 hg
      obtain ⟨c,B0,cs,e,_,hO⟩ := hreal g' hg
      rw [f1 g' hg,hO.at_]
      exact (hext g' hg B0 hO.at_).symm.trans h2
    · rw [f2 g' k3 hg,h1]; exact h2
  have hlive : ∀ g c',g ∈ up.map (·.1) → upH H up g = some c' → ∃ o c c1,m.lookup g = some o ∧ hget s.hp o = some c ∧ o ∉ V ∧ VwL (hget s.hp) V c c1 ∧ RenL m c1 c' := fun g c' hg hc => hE.get g c' (upH_some hg hc)
  have hnew : ∀ g,g ∈ up.map (·.1) → g ∉ h.map (·.1) → ∃ c',(g,some c') ∈ up := fun g hg hgh => by
    obtain ⟨x,hx,rfl⟩ := List.mem_map.1 hg
    have := u2 _ hx
    obtain ⟨k,v⟩ := x
    cases v with
    | some c' => exact ⟨c',hx⟩
    | none => simp at this; exact absurd (List.mem_map.2 ⟨_,this.choose_spec,rfl⟩) hgh
  have hobjV : ∀ g c,g ∈ V → hget s.hp g = some c → Holds w' βe Ze g c := fun g c _ hc => hS.objs g c hc
  have hgone : ∀ g B,g ∈ V → βe g = some B → ¬ (B < C.w0.heap.size ∧ C.Zl B) := fun g B hg hB => by
    obtain ⟨c,hc⟩ := hV g hg
    rcases hpre with rfl | hpre
    · simp at hg
    · exact preB_live hS hpre hg hc hB
  have hZ : ∀ b,Zof C.Z0 βf ⟨d,h.map (·.1),up⟩ b → Ze b ∧ ¬ ∃ g ∈ V, βe g = some b := by
    have hz1 : ∀ b,C.Z0 b → Ze b ∧ ¬ ∃ g ∈ V, βe g = some b := fun b hz => by
      have hlt := hp.zlt b hz
      have hz' : C.Zl b := by rw [hC5]; exact hz
      refine ⟨hS.z0 b hlt hz',?_⟩
      rintro ⟨g,hg,hB⟩
      exact hgone g b hg hB ⟨hlt,hz'⟩
    rintro b (hz | ⟨g,hg,hB⟩)
    · exact hz1 b hz
    · by_cases hgh : g ∈ h.map (·.1)
      · obtain ⟨c,B0,cs,e,_,hO⟩ := hreal g hgh
        rw [f1 g hgh,hO.at_] at hB
        cases hB
        exact hz1 _ hO.ours
      · rw [f2 g hg hgh] at hB
        obtain ⟨c',hc'⟩ := hnew g hg hgh
        obtain ⟨o,c,c1,ho,hoc,hoV,_⟩ := hE.get g c' hc'
        rw [ho,Option.bind_some] at hB
        obtain ⟨cs,e,hO⟩ := (hS.objs o c hoc).real hB
        refine ⟨hO.ours,?_⟩
        rintro ⟨g1,hg1,hB1⟩
        obtain ⟨c2,hc2⟩ := hV g1 hg1
        have := hS.inj o g1 c c2 b hoc hc2 hB hB1
        subst this
        exact hoV hg1
  have conv : ∀ {v d0 d1 d2},Vw (hget s.hp) V d0 d1 → Ren m d1 d2 → Rep w' βe Ze v d0 → Rep w' βf (Zof C.Z0 βf ⟨d,h.map (·.1),up⟩) v d2 := fun h1 h2 h3 =>
    (h2.rep hm (h1.rep h3 hobjV)).mono (Fr.refl (fun _ => False) w') (fun _ _ h => h.elim) (Ext.refl βf) fun b _ hz => hZ b hz
  have hpre : ∀ b,C.preB b → Wr H ⟨d,h.map (·.1),up⟩ C.β0 b := by
    intro b hb
    obtain ⟨g,hg,hB⟩ := hC6 b hb
    obtain ⟨c,_,h2,_,h4⟩ := hmem g (hC2 ▸ hg)
    exact ⟨g,c,h4,h2,hB⟩
  refine ⟨βf,fun g B hg => ?_,fun g hg => ?_,hS.fr.mono fun b _ hb => hpre b hb,conv hvw hren hrep,fun g c' hg hc' => ?_,fun g c' B hg hc' hB => ?_,fun b hb hz => hS.old b hb (hZ b hz).1,fun _ b hz => hS.zlt b (hZ b hz).1,fun g g' c1 c2 B hg hg' hc hc' hb hb' => ?_⟩
  · by_cases h1 : g ∈ h.map (·.1) ∨ g ∉ up.map (·.1)
    · exact (if_pos h1).trans hg
    · simp only [not_or,Decidable.not_not] at h1
      have := hp.fresh g h1.2 (hfr g h1.2 h1.1)
      rw [this] at hg; cases hg
  · by_cases h1 : g ∈ h.map (·.1) ∨ g ∉ up.map (·.1)
    · exact .inl (by rw [← show βf g = C.β0 g from if_pos h1]; exact hg)
    · simp only [not_or,Decidable.not_not] at h1
      exact .inr ⟨h1.2,hfr g h1.2 h1.1⟩
  · obtain ⟨o,c,c1,ho,hoc,hoV,hl1,hl2⟩ := hlive g c' hg hc'
    obtain ⟨p1,p2⟩ := hl1.get
    obtain ⟨p3,p4⟩ := hl2.get
    rcases hS.objs o c hoc with ⟨h3,h4⟩ | ⟨B,cs,e,hO⟩
    · subst h3
      have e1 : c1 = [] := List.length_eq_zero_iff.1 (by simpa using p1.symm)
      subst e1
      have e2 : c' = [] := List.length_eq_zero_iff.1 (by simpa using p3.symm)
      refine .inl ⟨e2,?_⟩
      by_cases hgh : g ∈ h.map (·.1)
      · obtain rfl := (k1 g o ho).2 hgh
        obtain ⟨c,B0,cs,e,_,hO⟩ := hreal g hgh
        rw [hext g hgh B0 hO.at_] at h4; cases h4
      · rw [f2 g hg hgh,ho]; exact h4
    · refine .inr ⟨B,cs,e,hm g o B ho hO.at_,.inr ⟨g,hg,hm g o B ho hO.at_⟩,hO.blk,by have := hO.fits; omega,fun i hi => conv (p2 i (by omega) (by omega)) (p4 i (by omega) hi) (hO.rep i (by omega))⟩
  · by_cases hgh : g ∈ h.map (·.1)
    · rw [f1 g hgh] at hB
      obtain ⟨c,_,h2,_⟩ := hmem g hgh
      exact .inr ⟨g,c,hg,h2,hB⟩
    · obtain ⟨o,c,c1,ho,hoc,_⟩ := hlive g c' hg hc'
      rw [f2 g hg hgh,ho,Option.bind_some] at hB
      exact (hS.orig o c B hoc hB).imp id (hpre B)
  · obtain ⟨o,x,x1,ho,hox,_⟩ := hlive g c1 hg hc
    obtain ⟨o',x',x1',ho',hox',_⟩ := hlive g' c2 hg' hc'
    have toE : ∀ g o,g ∈ up.map (·.1) → m.lookup g = some o → βf g = some B → βe o = some B := fun g o hg ho hb => by
      by_cases hgh : g ∈ h.map (·.1)
      · obtain rfl := (k1 g o ho).2 hgh
        rw [f1 g hgh] at hb
        exact hext g hgh B hb
      · rw [f2 g hg hgh,ho] at hb; exact hb
    have := hS.inj o o' x x' B hox hox' (toE g o hg ho hb) (toE g' o' hg' ho' hb')
    subst this
    exact k2 g g' o ho ho'
theorem ac_of_aw {f : FuncId} {fn : Func} {code : Code} {n0 : Nat} {args : List D} {h : Hp} {up : Ups} {d : D} {c : ACode} {rs : List AResV} (keep : List Nat) (hf : P.funcs[f]? = some fn) (hb : fn.body = some code) (hname : fn.name ≠ "runtime.NumGoroutine")
    (hc : compCode P fn.ntmps keep code = some c) (hrs : fn.results.toList.mapM (compRes P) = some rs) (hargs : args.length ≤ fn.ntmps) (hin : ∀ d ∈ args,In (· < n0) d) (hinh : ∀ x ∈ h,x.1 < n0 ∧ ∀ d ∈ x.2,In (· < n0) d) (hup : okUp h up = true)
    (hw : AW P fn.ntmps (h.map (·.1)) c (endQ rs h up d) ⟨envOf 0 args,h,n0⟩) : AC P f args h up d := by
  refine ⟨⟨fn,hf,hname,by rw [hb]; rfl⟩,fun w vs β Z H hs hr hh hfr hp => (callsIn_wide (n := 0)).1 (callsIn_of_wp_marks hf hb trivial ?_)⟩
  have hup0 := hup
  simp only [okUp,Bool.and_eq_true,List.all_eq_true,decide_eq_true_eq] at hup
  obtain ⟨⟨⟨u1,u2⟩,u3⟩,u4⟩ := hup
  let C : Ctx := ⟨none,w,h.map (·.1),fun b => ∃ g ∈ h.map (·.1), β g = some b,Z,Z, β,fn.ntmps,fun b hb _ => hb,fun l h => (by cases h),fun g => gl_new (hp.gl g) (by rintro b ⟨g',hg',hb⟩; obtain ⟨x,hx,rfl⟩ := List.mem_map.1 hg'; obtain ⟨cs,e,hO⟩ := (hp.objs x.1 x.2 (.inl (List.mem_map.2 ⟨x,hx,rfl⟩)) (hh x hx)).real hb; exact hO.ours)⟩
  let βi : Bet := fun g => if g < n0 then β g else none
  have hβi : ∀ g,g < n0 → βi g = β g := fun g hg => if_pos hg
  have hH : ∀ g c,hget h g = some c → H g = some c ∧ g ∈ h.map (·.1) ∧ g < n0 ∧ (∀ d ∈ c,In (· < n0) d) ∧ c ≠ [] := fun g c hc => by
    have hm := hget_mem hc
    have := u1 _ hm
    exact ⟨hh _ hm,List.mem_map.2 ⟨_,hm,rfl⟩,(hinh _ hm).1,(hinh _ hm).2,by rintro rfl; simp at this⟩
  have hmem : ∀ g,g ∈ h.map (·.1) → ∃ c,(g,c) ∈ h ∧ H g = some c ∧ c ≠ [] ∧ g ∈ up.map (·.1) ∧ g < n0 := fun g hg => by
    obtain ⟨x,hx,rfl⟩ := List.mem_map.1 hg
    have := u1 _ hx
    exact ⟨x.2,hx,hh x hx,by rintro he; simp [he] at this,by simpa using this.2,(hinh _ hx).1⟩
  have hreal : ∀ g,g ∈ h.map (·.1) → ∃ c B cs e,H g = some c ∧ ObjRep w β Z g c B cs e := fun g hg => by
    obtain ⟨c,h1,h2,h3,_⟩ := hmem g hg
    rcases hp.objs g c (.inl hg) h2 with ⟨h4,_⟩ | ⟨B,cs,e,hO⟩
    · exact absurd h4 h3
    · exact ⟨c,B,cs,e,h2,hO⟩
  have hR : Rel C ⟨envOf 0 args,h,n0⟩ { tmps := vs ++ Array.replicate (fn.ntmps - vs.size) undef,defers := [] } w := by
    refine ⟨βi,Z,⟨by simp [C]; omega,⟨List.nodup_nil,fun d hd => by cases hd⟩,fun t => ?_,fun g c hc => ?_,fun g g' c c' B hc hc' hb hb' => ?_,Fr.refl _ w,fun b _ hz => hz,fun b _ hz => hz,fun g c B hc hB => ?_,fun g hg B hB => ?_,hp.zlt⟩,fun g hg => if_neg (by simp only at hg; omega)⟩
    · show Rep w βi Z _ (eget (envOf 0 args) t)
      rw [get_envOf]
      split
      · rename_i ht
        have hlt : t < vs.size := by rw [hs]; simpa using ht.2
        have := hr t (by simpa using ht.2)
        rw [getD_append_left _ _ _ hlt]
        simp only [Nat.sub_zero]
        exact this.rename (hin _ (List.getElem_mem _)) hβi
      · exact .bot _
    · obtain ⟨h1,h2,h3,h4,h5⟩ := hH g c hc
      rcases hp.objs g c (.inl h2) h1 with ⟨h6,_⟩ | ⟨B,cs,e,hO⟩
      · exact absurd h6 h5
      · exact .inr ⟨B,cs,e,(hβi g h3).trans hO.at_,hO.ours,hO.blk,hO.fits,fun i hi => (hO.rep i hi).rename (h4 _ (List.getElem_mem hi)) hβi⟩
    · obtain ⟨h1,h2,h3,_⟩ := hH g c hc
      obtain ⟨h1',h2',h3',_⟩ := hH g' c' hc'
      exact hp.inj g g' c c' B (.inl h2) (.inl h2') h1 h1' ((hβi g h3).symm.trans hb) ((hβi g' h3').symm.trans hb')
    · obtain ⟨h1,h2,h3,_⟩ := hH g c hc
      exact .inr ⟨g,h2,(hβi g h3).symm.trans hB⟩
    · obtain ⟨c,_,_,_,_,h3⟩ := hmem g hg
      exact (hβi g h3).trans hB
  refine wpIn_mono (hw code keep hc C _ w rfl rfl (Okr.nil rfl) hR) fun e a w' he => ?_
  have hend : ∀ s,(∃ e',endQ rs h up d e' s) → Rel C s a w' → LeavesInM Fence.wide 0 P fn a.tmps (fun e w' => ∃ v,e = .returned v ∧ Post w β Z H ⟨d,h.map (·.1),up⟩ v w') a.defers .returning w' := by
    rintro s ⟨e',_,d0,V,d1,m,hd0,hvw,hren,hV,hpre,hok,hE⟩ ⟨βe,Ze,hS,_⟩
    refine hS.leaves a.defers a w' rfl fun a' w'' ht _ hS' => ?_
    obtain ⟨v,hv,hrep⟩ := res_sound hS' hrs hd0
    rw [ht] at hv
    exact ⟨v,hv,v,rfl,post_of_end (C := C) rfl rfl rfl rfl rfl (fun b hb => hb) hup0 hh hfr hp hS' hrep hvw hren hV hpre hok hE⟩
  cases e with
  | normal => obtain ⟨s,hs,hr⟩ := he; exact hend s ⟨_,hs⟩ hr
  | ret => obtain ⟨s,hs,hr⟩ := he; exact hend s ⟨_,hs⟩ hr
  | exit id => obtain ⟨s,⟨h1,_⟩,_⟩ := he; rcases h1 with h1 | h1 <;> cases h1
  | _ => exact he.elim
end
end Go.Proofs.YtbncpngjclabhaaGreat.Lift
namespace Go.Proofs.YtbncpngjclabhaaGreat.Lift
open Go Go.RowKit

theorem fits {x : Int} (h1 : -9223372036854775808 ≤ x) (h2 : x ≤ 9223372036854775807) : IntKind.i64.wrap x = x := IntWalk.i64_in _ (by omega)
theorem okLog_f (log : Lg) (a b c : List Nat) : (okLog false log a b c = true) = True := by simp [okLog]
def IsCode (P : Program) (f : FuncId) (n : Nat) (c : ACode) (rs : List AResV) : Prop :=
  ∃ (fn : Func) (code : Code) (keep : List Nat),P.funcs[f]? = some fn ∧ fn.body = some code ∧ fn.name ≠ "runtime.NumGoroutine" ∧ fn.ntmps = n ∧ compCode P n keep code = some c ∧ fn.results.toList.mapM (compRes P) = some rs
def allIn (n0 : Nat) : List D → Prop
  | [] => True
  | d :: l => In (· < n0) d ∧ allIn n0 l
theorem allIn.mem {n0 : Nat} : ∀ {l : List D},allIn n0 l → ∀ d ∈ l,In (· < n0) d
  | [],_,d,h => by simp at h
  | x :: l,h,d,hd => by
    rcases List.mem_cons.1 hd with rfl | hd
    · exact h.1
    · exact h.2.mem d hd
def allHp (n0 : Nat) : Hp → Prop
  | [] => True
  | x :: l => (x.1 < n0 ∧ ∀ d ∈ x.2,In (· < n0) d) ∧ allHp n0 l
theorem allHp.mem {n0 : Nat} : ∀ {l : Hp},allHp n0 l → ∀ x ∈ l,x.1 < n0 ∧ ∀ d ∈ x.2,In (· < n0) d
  | [],_,x,h => by simp at h
  | y :: l,h,x,hx => by
    rcases List.mem_cons.1 hx with rfl | hx
    · exact h.1
    · exact h.2.mem x hx
theorem IsCode.ac {P : Program} {f n n0 : Nat} {c : ACode} {rs : List AResV} {args : List D} {h : Hp} {up : Ups} {d : D} (hc : IsCode P f n c rs) (hargs : args.length ≤ n) (hin : allIn n0 args) (hinh : allHp n0 h) (hup : okUp h up = true)
    (hw : AW P n (h.map (·.1)) c (endQ rs h up d) ⟨envOf 0 args,h,n0⟩) : AC P f args h up d := by
  obtain ⟨fn,code,keep,h1,h2,h3,rfl,h4,h5⟩ := hc
  exact ac_of_aw keep h1 h2 h3 h4 h5 hargs hin.mem hinh.mem hup hw
end Go.Proofs.YtbncpngjclabhaaGreat.Lift
namespace Go.Proofs.YtbncpngjclabhaaGreat.Lift
open Go Go.RowKit

inductive Sh where
  | int
  | bool
  | sl (e : List Sh)
def shFs (P : Program) (g : TypeId → Option (List Sh)) : List Field → Nat → Option (List Sh)
  | [],_ => some []
  | f :: fs,o => match g f.type,shFs P g fs (o + P.cellsOf f.type) with
    | some a,some b => if f.offset = o ∧ a.length = P.cellsOf f.type then some (a ++ b) else none
    | _,_ => none
def shape (P : Program) : Nat → TypeId → Option (List Sh)
  | 0,_ => none
  | m + 1,t => match P.underlying t with
    | some .bool => some [.bool]
    | some (.int .i64) => some [.int]
    | some (.slice e) => match shape P m e with
      | some l => if l.length = P.cellsOf e ∧ 0 < l.length then some [.sl l] else none
      | none => none
    | some (.array n e) => match shape P m e with
      | some l => if l.length = P.cellsOf e ∧ P.cellsOf t = n * P.cellsOf e then some (List.replicate n l).flatten else none
      | none => none
    | some (.struct fs) => match shFs P (shape P m) fs.toList 0 with
      | some l => if l.length = P.cellsOf t then some l else none
      | none => none
    | _ => none
inductive CfL : List Sh → List D → Prop
  | nil : CfL [] []
  | int (n : Int) (ss : List Sh) (ds : List D) : -9223372036854775808 ≤ n → n ≤ 9223372036854775807 → CfL ss ds → CfL (.int :: ss) (.val (.int .i64 n) :: ds)
  | bool (b : Bool) (ss : List Sh) (ds : List D) : CfL ss ds → CfL (.bool :: ss) (.val (.bool b) :: ds)
  | sl (e : List Sh) (l : List (List D)) (ss : List Sh) (ds : List D) : l.length ≤ maxLen → (∀ x ∈ l,CfL e x) → CfL ss ds → CfL (.sl e :: ss) (.list l :: ds)
theorem CfL.len {ss : List Sh} {ds : List D} (h : CfL ss ds) : ss.length = ds.length := by
  induction h with
  | nil => rfl
  | int n ss ds _ _ _ ih => simp [ih]
  | bool b ss ds _ ih => simp [ih]
  | sl e l ss ds _ _ _ _ ih => simp [ih]
theorem CfL.app {a b : List Sh} {c d : List D} (h : CfL a c) (k : CfL b d) : CfL (a ++ b) (c ++ d) := by
  induction h with
  | nil => exact k
  | int n ss ds h1 h2 _ ih => exact .int n _ _ h1 h2 ih
  | bool b ss ds _ ih => exact .bool b _ _ ih
  | sl e l ss ds h1 h2 _ _ ih => exact .sl e l _ _ h1 h2 ih
def RepC (w : World) (cs : List Value) (ds : List D) : Prop := cs.length = ds.length ∧ ∀ i (h : i < cs.length) (h' : i < ds.length),Rep w β0 (fun _ => False) cs[i] ds[i]
theorem RepC.app {w : World} {a b : List Value} {c d : List D} (h : RepC w a c) (k : RepC w b d) : RepC w (a ++ b) (c ++ d) := by
  refine ⟨by simp [h.1,k.1],fun i hi hi' => ?_⟩
  by_cases h1 : i < a.length
  · rw [List.getElem_append_left h1,List.getElem_append_left (by rw [← h.1]; exact h1)]
    exact h.2 i h1 _
  · have e := h.1
    rw [List.getElem_append_right (by omega),List.getElem_append_right (by omega)]
    have := k.2 (i - a.length) (by simp at hi; omega) (by rw [← k.1]; simp at hi; omega)
    simpa only [e] using this
section
variable {H : Type} {enc : TypeId × Value → H} {P : Program} {w : World} {base : Nat} {held : Bool}
theorem cells_get {b : Nat} {a : Addr} {n : Nat} {cs : List Value} (h : w.cells? b a n = some cs) : cs.length = n ∧ ∀ i (hi : i < n) (hi' : i < cs.length),w.cell? (a.add i) = some cs[i] := by
  unfold World.cells? at h
  split at h
  · have gen : ∀ (l : List Nat) (cs : List Value),(l.mapM fun i => w.cell? (a.add i)) = some cs → cs.length = l.length ∧ ∀ i (hi : i < l.length) (hi' : i < cs.length),w.cell? (a.add l[i]) = some cs[i] := by
      intro l
      induction l with
      | nil => intro cs h; simp at h; subst h; exact ⟨rfl,fun i h => by simp at h⟩
      | cons x l ih =>
        intro cs h
        rw [List.mapM_cons] at h
        simp only [bind,Option.bind_eq_some_iff,pure,Option.some.injEq] at h
        obtain ⟨y,hy,ys,hys,rfl⟩ := h
        obtain ⟨h1,h2⟩ := ih ys hys
        refine ⟨by simp [h1],fun i hi hi' => ?_⟩
        cases i with
        | zero => exact hy
        | succ i => exact h2 i (by simpa using hi) (by simpa using hi')
    obtain ⟨h1,h2⟩ := gen _ _ h
    refine ⟨by simpa using h1,fun i hi hi' => ?_⟩
    have := h2 i (by simpa using hi) hi'
    simpa using this
  · cases h
theorem choose_fin {α : Type} [Inhabited α] {n : Nat} {p : Nat → α → Prop} (h : ∀ i,i < n → ∃ x,p i x) : ∃ l : List α,l.length = n ∧ ∀ i (hi : i < l.length),p i l[i] := by
  induction n with
  | zero => exact ⟨[],rfl,fun i hi => by simp at hi⟩
  | succ n ih =>
    obtain ⟨l,h1,h2⟩ := ih fun i hi => h i (by omega)
    obtain ⟨x,hx⟩ := h n (by omega)
    refine ⟨l ++ [x],by simp [h1],fun i hi => ?_⟩
    by_cases hlt : i < l.length
    · rw [List.getElem_append_left hlt]; exact h2 i hlt
    · have : i = n := by simp at hi; omega
      subst this
      rw [List.getElem_append_right (by omega)]
      simpa [h1] using hx
theorem getElem_of_eq {l : List (List D)} {i : Nat} {a : List D} (h : i < l.length) (e : l[i] = a) (j : Nat) (hj : j < l[i].length) (hj' : j < a.length) : l[i][j] = a[j] := by subst e; rfl
theorem open_fs {m : Nat} (IH : ∀ (t : TypeId) (cs : List Value) (x : DataW H × List MemPlace) (ss : List Sh),DataW.trod enc P w base (fun _ => true) held m t cs = some x → ∀ k,shape P k t = some ss → ∃ ds,CfL ss ds ∧ RepC w cs ds) {k : Nat} (cs : List Value) :
    ∀ (fs : List Field) (o : Nat) (ss : List Sh),shFs P (shape P k) fs o = some ss → o + ss.length ≤ cs.length → (∀ f ∈ fs, ∃ x,DataW.trod enc P w base (fun _ => true) held m f.type ((cs.drop f.offset).take (P.cellsOf f.type)) = some x) →
    ∃ ds,CfL ss ds ∧ RepC w ((cs.drop o).take ss.length) ds
  | [],o,ss,h,_,_ => by
    simp only [shFs,Option.some.injEq] at h
    subst h
    exact ⟨[],.nil,by simp [RepC]⟩
  | f :: fs,o,ss,h,hl,hx => by
    simp only [shFs] at h
    split at h
    · rename_i a b ha hb
      split at h
      · rename_i hc
        obtain ⟨rfl,hlen⟩ := hc
        cases h
        obtain ⟨x,hx0⟩ := hx f (by simp)
        obtain ⟨d1,c1,r1⟩ := IH _ _ _ _ hx0 k ha
        obtain ⟨d2,c2,r2⟩ := open_fs IH cs fs _ b hb (by simp at hl; omega) fun g hg => hx g (by simp [hg])
        refine ⟨d1 ++ d2,c1.app c2,?_⟩
        rw [List.length_append,hlen,List.take_add,List.drop_drop]
        exact r1.app r2
      · cases h
    · cases h
theorem open_items {m : Nat} (IH : ∀ (t : TypeId) (cs : List Value) (x : DataW H × List MemPlace) (ss : List Sh),DataW.trod enc P w base (fun _ => true) held m t cs = some x → ∀ k,shape P k t = some ss → ∃ ds,CfL ss ds ∧ RepC w cs ds) {k : Nat} {e : TypeId} {l : List Sh} (hl : shape P k e = some l) (hle : l.length = P.cellsOf e) (cs : List Value) :
    ∀ (n i : Nat),(i + n) * P.cellsOf e ≤ cs.length → (∀ j,i ≤ j → j < i + n → ∃ x,DataW.trod enc P w base (fun _ => true) held m e ((cs.drop (j * P.cellsOf e)).take (P.cellsOf e)) = some x) →
    ∃ ds,CfL (List.replicate n l).flatten ds ∧ RepC w ((cs.drop (i * P.cellsOf e)).take (n * P.cellsOf e)) ds
  | 0,i,_,_ => ⟨[],by simpa using CfL.nil,by simp [RepC]⟩
  | n + 1,i,hlen,hx => by
    obtain ⟨x,hx0⟩ := hx i (Nat.le_refl i) (by omega)
    obtain ⟨d1,c1,r1⟩ := IH _ _ _ _ hx0 k hl
    obtain ⟨d2,c2,r2⟩ := open_items IH hl hle cs n (i + 1) (by rw [Nat.add_assoc,Nat.add_comm 1 n]; exact hlen) fun j h1 h2 => hx j (by omega) (by omega)
    refine ⟨d1 ++ d2,?_,?_⟩
    · rw [List.replicate_succ,List.flatten_cons]; exact c1.app c2
    · rw [show (n + 1) * P.cellsOf e = P.cellsOf e + n * P.cellsOf e by rw [Nat.add_mul,Nat.one_mul,Nat.add_comm],List.take_add,List.drop_drop,show i * P.cellsOf e + P.cellsOf e = (i + 1) * P.cellsOf e by rw [Nat.add_mul,Nat.one_mul]]
      exact r1.app r2
theorem open_rep : ∀ (fuel : Nat) (t : TypeId) (cs : List Value) (x : DataW H × List MemPlace) (ss : List Sh),DataW.trod enc P w base (fun _ => true) held fuel t cs = some x → ∀ m,shape P m t = some ss → ∃ ds,CfL ss ds ∧ RepC w cs ds
  | 0,_,_,_,_,h,_,_ => by simp [DataW.trod] at h
  | _ + 1,_,_,_,_,_,0,hs => by simp [shape] at hs
  | fuel + 1,t,cs,x,ss,h,m + 1,hs => by
    have one : ∀ {v : Value} {d : D},Rep w β0 (fun _ => False) v d → RepC w [v] [d] := fun h => ⟨rfl,fun i hi hi' => by
      have : i = 0 := by simpa using hi
      subst this; exact h⟩
    simp only [shape] at hs
    split at hs
    · rename_i hu
      cases hs
      obtain ⟨b,rfl,_⟩ := DataW.trod_bool hu h
      exact ⟨_,.bool b [] [] .nil,one (.val _)⟩
    · rename_i hu
      cases hs
      obtain ⟨n,rfl,_,hw⟩ := DataW.trod_int hu h
      have hw' : -9223372036854775808 ≤ n ∧ n ≤ 9223372036854775807 := by
        simp only [Lit.wf,Bool.and_eq_true,decide_eq_true_eq] at hw
        have e1 : IntKind.i64.min = -9223372036854775808 := by decide
        have e2 : IntKind.i64.max = 9223372036854775807 := by decide
        omega
      exact ⟨_,.int n [] [] hw'.1 hw'.2 .nil,one (.val _)⟩
    · rename_i e hu
      split at hs
      · rename_i l hl
        split at hs
        · rename_i hlen
          cases hs
          rcases DataW.trod_slice hu h with ⟨rfl,_⟩ | ⟨a,len,cap,elems,rest,n,hf,rfl,_,hb,hlc,hcm,hel,hget,_⟩
          · exact ⟨_,.sl l [] [] [] (by simp) (by simp) .nil,one (.list0 _ _)⟩
          · cases hf
            have each : ∀ i,i < len → ∃ ds : List D,CfL l ds ∧ ∃ cs,w.cells? base (a.add (i * P.cellsOf e)) (P.cellsOf e) = some cs ∧ RepC w cs ds := by
              intro i hi
              have h1 := hget i hi
              rw [List.getElem?_eq_getElem (by omega),Option.bind_eq_some_iff] at h1
              obtain ⟨cs,hcs,hx⟩ := h1
              obtain ⟨ds,hd,hr⟩ := open_rep fuel e cs _ l hx m hl
              exact ⟨ds,hd,cs,hcs,hr⟩
            obtain ⟨L,hL,hall⟩ := choose_fin each
            refine ⟨_,.sl l L [] [] (by omega) (fun y hy => ?_) .nil,one ?_⟩
            · obtain ⟨i,hi,rfl⟩ := List.getElem_of_mem hy
              exact (hall i hi).1
            · by_cases h0 : len = 0
              · have : L = [] := List.length_eq_zero_iff.1 (by omega)
                subst this; subst h0
                exact .list0 _ _
              · obtain ⟨hc0,cs0,hcs0,_⟩ := hall 0 (by omega)
                have hpos : 0 < P.cellsOf e := by omega
                obtain ⟨q1,q2⟩ := cells_get hcs0
                have hc := q2 0 hpos (by omega)
                have hadd0 : ∀ a : Addr,a.add 0 = a := fun a => by simp [Addr.add]
                rw [Nat.zero_mul,hadd0,hadd0] at hc
                obtain ⟨ab,ao,as⟩ := a
                have hsp : as = none := by
                  cases as with
                  | none => rfl
                  | some z => simp [World.cell?] at hc; split at hc <;> simp at hc
                subst hsp
                have hblk : ab < w.heap.size := by
                  simp only [World.cell?] at hc
                  cases hh : w.heap[ab]? with
                  | none => rw [hh] at hc; cases hc
                  | some o => exact (Array.getElem?_eq_some_iff.1 hh).1
                have cellOf : ∀ i (hi : i < L.length) j (hj : j < L[i].length), ∃ v,w.cell? ⟨ab,ao + i * P.cellsOf e + j,none⟩ = some v ∧ Rep w β0 (fun _ => False) v L[i][j] := by
                  intro i hi j hj
                  obtain ⟨g1,cs,hcs,hr⟩ := hall i hi
                  obtain ⟨p1,p2⟩ := cells_get hcs
                  have hjl : j < cs.length := by rw [hr.1]; exact hj
                  have := p2 j (by omega) hjl
                  rw [add_none,add_none] at this
                  exact ⟨_,this,hr.2 j hjl hj⟩
                have hv : ∃ vs : Nat → Nat → Value, ∀ i (hi : i < L.length) j (hj : j < L[i].length),w.cell? ⟨ab,ao + i * P.cellsOf e + j,none⟩ = some (vs i j) ∧ Rep w β0 (fun _ => False) (vs i j) L[i][j] :=
                  ⟨fun i j => (w.cell? ⟨ab,ao + i * P.cellsOf e + j,none⟩).getD undef,fun i hi j hj => by
                    obtain ⟨v,h1,h2⟩ := cellOf i hi j hj
                    have e1 : (fun i j => (w.cell? ⟨ab,ao + i * P.cellsOf e + j,none⟩).getD undef) i j = v := by simp [h1]
                    rw [e1]; exact ⟨h1,h2⟩⟩
                obtain ⟨vs,hvs⟩ := hv
                rw [show len = L.length from hL.symm]
                exact .list ab ao cap (P.cellsOf e) L vs (fun h => h) hblk (by omega) (fun y hy => by
                  obtain ⟨i,hi,rfl⟩ := List.getElem_of_mem hy
                  rw [← (hall i hi).1.len]; exact hlen.1) (fun i j hi hj => (hvs i hi j hj).1) (fun i j hi hj => (hvs i hi j hj).2)
        · cases hs
      · cases hs
    · rename_i n e hu
      split at hs
      · rename_i l hl
        split at hs
        · rename_i hlen
          cases hs
          obtain ⟨xs,k,hf,_,hcl,hxl,hget⟩ := DataW.trod_array hu h
          cases hf
          obtain ⟨ds,hd,hr⟩ := open_items (fun t cs x ss h k hk => open_rep fuel t cs x ss h k hk) hl hlen.1 cs n 0 (by rw [Nat.zero_add]; omega) fun j _ hj => by
            have := hget j (by omega)
            rw [List.getElem?_eq_getElem (by omega)] at this
            exact ⟨_,this⟩
          refine ⟨ds,hd,?_⟩
          rw [Nat.zero_mul,List.drop_zero,List.take_of_length_le (by omega)] at hr
          exact hr
        · cases hs
      · cases hs
    · rename_i fs hu
      split at hs
      · rename_i l hl
        split at hs
        · rename_i hlen
          cases hs
          obtain ⟨xs,k,hf,_,hcl,hxl,hget⟩ := DataW.trod_struct hu h
          cases hf
          obtain ⟨ds,hd,hr⟩ := open_fs (fun t cs x ss h k hk => open_rep fuel t cs x ss h k hk) cs fs.toList 0 _ hl (by omega) fun f hf => by
            obtain ⟨i,hi,rfl⟩ := List.getElem_of_mem hf
            have hi' : i < fs.size := by simpa using hi
            have := hget i fs[i] (by simp [hi'])
            rw [List.getElem?_eq_getElem (by omega)] at this
            exact ⟨_,by simpa using this⟩
          refine ⟨ds,hd,?_⟩
          rw [List.drop_zero,List.take_of_length_le (by omega)] at hr
          exact hr
        · cases hs
      · cases hs
    · cases hs
end
end Go.Proofs.YtbncpngjclabhaaGreat.Lift
namespace Go.Proofs.YtbncpngjclabhaaGreat.Lift
open Go Go.RowKit

section
variable {P : Program}
theorem ac_of_calls {f : FuncId} {args : List D} {d : D} {v : Value} (hok : callOK P f) (hd : ∀ (w : World) (β : Bet) (Z : Blk),Rep w β Z v d)
    (h : ∀ (w : World) (vs : Array Value) (β : Bet) (Z : Blk),vs.size = args.length → (∀ i (hi : i < args.length),Rep w β Z (vs.getD i undef) args[i]) → Calls P f vs w fun e w' => e = .returned v ∧ Below w.heap.size w w') : AC P f args [] [] d := by
  refine ⟨hok,fun w vs β Z H hs hr _ _ hp => (h w vs β Z hs hr).mono ?_⟩
  rintro e w' ⟨rfl,hb⟩
  exact ⟨v,rfl, β,Ext.refl β,fun g hg => .inl hg,Fr.of_below hb _,hd _ _ _,fun g c hg => by simp [Eff.ids] at hg,fun g c B hg => by simp [Eff.ids] at hg,fun b _ hz => by
    rcases hz with hz | ⟨g,hg,_⟩
    · exact hz
    · simp [Eff.ids] at hg,fun hzl b hz => by
    rcases hz with hz | ⟨g,hg,_⟩
    · exact Nat.lt_of_lt_of_le (hzl b hz) hb.size
    · simp [Eff.ids] at hg,fun g _ _ _ _ hg => by simp [Eff.ids] at hg⟩
theorem AC.calls {f : FuncId} {args : List D} {u : Value} (h : AC P f args [] [] (.val u)) {w : World} {vs : Array Value} (hs : vs.size = args.length) (hr : ∀ i (hi : i < args.length),Rep w β0 (fun _ => False) (vs.getD i undef) args[i])
    (hG : ∀ g,Rep w (fun _ => none) (fun _ => False) (.pointer (some ⟨g,0,none⟩)) (GL g) := by exact fun g => .val _) :
    Calls P f vs w fun e w' => e = .returned u ∧ Below w.heap.size w w' := by
  refine (h.2 w vs β0 (fun _ => False) (fun _ => none) hs hr (by simp) (by simp) ⟨fun g c hg => by simp [Eff.ids] at hg,fun g g' c c' B hg => by simp [Eff.ids] at hg,fun g hg => by simp [Eff.ids] at hg,fun b h => h.elim,hG⟩).mono ?_
  rintro e w' ⟨v,rfl, β',p⟩
  have := p.rep.val_eq
  subst this
  exact ⟨rfl,p.fr.below fun b _ ⟨g,c,hg,_⟩ => by simp [Eff.ids] at hg⟩
def oneD (a : Bool) (ds : List D) : D := if a = true then .agg ds else ds.headD .bot
theorem open_arg {H : Type} {enc : TypeId × Value → H} {w : World} {base : Nat} {held : Bool} {t : TypeId} {td : TypeDesc} {v : Value} {d : DataW H} {ps : List MemPlace} {m : Nat} {ss : List Sh} (hu : P.underlying t = some td) (hv : aggT td = true → ∃ cs,v = .agg cs) (hn : aggT td = false → ∀ cs,v ≠ .agg cs)
    (h : DataW.Trod enc P w base (fun _ => true) held t v d ps) (hs : shape P m t = some ss) : ∃ ds,CfL ss ds ∧ Rep w β0 (fun _ => False) v (oneD (aggT td) ds) := by
  obtain ⟨fuel,h⟩ := h
  obtain ⟨ds,hc,hr⟩ := open_rep fuel t _ _ ss h m hs
  refine ⟨ds,hc,?_⟩
  unfold oneD
  cases ha : aggT td with
  | true =>
    obtain ⟨cs,rfl⟩ := hv ha
    rw [if_pos rfl]
    refine .agg _ _ (by simpa [Value.cells] using hr.1) fun i hi => ?_
    have e : cs.size = ds.length := by simpa [Value.cells] using hr.1
    have hi' : i < cs.size := by omega
    have := hr.2 i (by simpa [Value.cells] using hi') hi
    rw [show cs.getD i undef = cs[i] by simp [hi']]
    simpa [Value.cells] using this
  | false =>
    have hvc : v.cells = #[v] := by
      cases v <;> first | rfl | exact absurd rfl (hn ha _)
    rw [if_neg (by simp)]
    rw [hvc] at hr
    obtain ⟨h1,h2⟩ := hr
    match ds,h1 with
    | [x],_ => exact h2 0 (by simp) (by simp)
end
end Go.Proofs.YtbncpngjclabhaaGreat.Lift
namespace Go.Proofs.YtbncpngjclabhaaGreat.Lift
open Go Go.RowKit

theorem cnd {α : Type} (k t : Nat) (x y : α) : (if k = t then x else y) = cond (k == t) x y := by
  by_cases h : k = t
  · rw [if_pos h,beq_iff_eq.mpr h]; rfl
  · rw [if_neg h,beq_eq_false_iff_ne.mpr h]; rfl
theorem eget_n {t : Nat} : eget [] t = .bot := rfl
theorem eget_h {t : Nat} {d : D} {r : Env} : eget ((t,d) :: r) t = d := by simp [eget]
theorem eget_c {k t : Nat} {d : D} {r : Env} : eget ((k,d) :: r) t = cond (k == t) d (eget r t) := cnd _ _ _ _
theorem eput_n {t : Nat} {d : D} : eput [] t d = [(t,d)] := rfl
theorem eput_c {k t : Nat} {e d : D} {r : Env} : eput ((k,e) :: r) t d = cond (k == t) ((k,d) :: r) ((k,e) :: eput r t d) := cnd _ _ _ _
theorem hget_n {t : Nat} : hget [] t = none := rfl
theorem hget_h {t : Nat} {d : List D} {r : Hp} : hget ((t,d) :: r) t = some d := by simp [hget]
theorem hget_c {k t : Nat} {d : List D} {r : Hp} : hget ((k,d) :: r) t = cond (k == t) (some d) (hget r t) := cnd _ _ _ _
theorem hput_n {t : Nat} {d : List D} : hput [] t d = [(t,d)] := rfl
theorem hput_c {k t : Nat} {e d : List D} {r : Hp} : hput ((k,e) :: r) t d = cond (k == t) ((k,d) :: r) ((k,e) :: hput r t d) := cnd _ _ _ _
theorem hdel_n {t : Nat} : hdel [] t = [] := rfl
theorem hdel_c {k t : Nat} {e : List D} {r : Hp} : hdel ((k,e) :: r) t = cond (k == t) (hdel r t) ((k,e) :: hdel r t) := cnd _ _ _ _
theorem inL_n {t : Nat} : inL [] t = false := rfl
theorem inL_c {k t : Nat} {r : List Nat} : inL (k :: r) t = cond (k == t) true (inL r t) := cnd _ _ _ _
theorem dropE_n {l : List Nat} : dropE [] l = [] := rfl
theorem dropE_c {k : Nat} {d : D} {r : Env} {l : List Nat} : dropE ((k,d) :: r) l = cond (inL l k) (dropE r l) ((k,d) :: dropE r l) := by
  rw [dropE]; cases inL l k <;> rfl
section
variable (P : Program) (dr : Bool) (b : Nat) (Q : St → Prop)
def ACallK (fd : D) (args : List D) (dst : Option Nat) (anc : List Nat) (l : List AOper) (k : Nat) (s : St) (log : Lg) : Prop :=
  ACall P fd args s.hp (b + 8 * k) fun d rd up => okLog dr log anc rd (up.map (·.1)) = true ∧ ARun P dr b Q l (k + 1) (s.app dst d up) ((k,rd,up.map (·.1)) :: log)
def AGo (e : Option Eff) (dst : Option Nat) (anc : List Nat) (l : List AOper) (k : Nat) (s : St) (log : Lg) : Prop := match e with
  | some ef => okLog dr log anc ef.rd (ef.up.map (·.1)) = true ∧ ARun P dr b Q l (k + 1) (s.app dst ef.d ef.up) ((k,ef.rd,ef.up.map (·.1)) :: log)
  | none => False
def AOpRun (op : AOp) (dst : Option Nat) (anc : List Nat) (l : List AOper) (k : Nat) (s : St) (log : Lg) : Prop := match op with
  | .call f args => ACallK P dr b Q (s.F.ev f) (args.map s.F.ev) dst anc l k s log
  | op => AGo P dr b Q (aexec s.F.ev (hget s.hp) (b + 8 * k) op) dst anc l k s log
def AGuard (d : D) (want : Bool) (op : AOp) (dst : Option Nat) (anc : List Nat) (l : List AOper) (k : Nat) (s : St) (log : Lg) : Prop := match d with
  | .val (.bool bv) => (bv = want → AOpRun P dr b Q op dst anc l k s log) ∧ (bv ≠ want → ARun P dr b Q l (k + 1) (s.app dst (.val undef) []) log)
  | .val _ => ARun P dr b Q l (k + 1) (s.app dst (.val undef) []) log
  | _ => False
end
section
variable {P : Program} {dr : Bool} {b : Nat} {Q : St → Prop} {op : AOp} {dst : Option Nat} {anc : List Nat} {l : List AOper} {k : Nat} {s : St} {log : Lg}
theorem ARun_nil : ARun P dr b Q [] k s log = Q s := rfl
theorem AOpRun_eq : AOpRun P dr b Q op dst anc l k s log = (match op with
        | .call f args => ACall P (s.F.ev f) (args.map s.F.ev) s.hp (b + 8 * k) fun d rd up => okLog dr log anc rd (up.map (·.1)) = true ∧ ARun P dr b Q l (k + 1) (s.app dst d up) ((k,rd,up.map (·.1)) :: log)
        | op => ARes (aexec s.F.ev (hget s.hp) (b + 8 * k) op) fun ef => okLog dr log anc ef.rd (ef.up.map (·.1)) = true ∧ ARun P dr b Q l (k + 1) (s.app dst ef.d ef.up) ((k,ef.rd,ef.up.map (·.1)) :: log)) := by
  have ego : ∀ e,AGo P dr b Q e dst anc l k s log = ARes e fun ef => okLog dr log anc ef.rd (ef.up.map (·.1)) = true ∧ ARun P dr b Q l (k + 1) (s.app dst ef.d ef.up) ((k,ef.rd,ef.up.map (·.1)) :: log) := fun e => by cases e <;> rfl
  cases op <;> first | rfl | exact ego _
theorem ARun_none : ARun P dr b Q (⟨dst,op,none,anc⟩ :: l) k s log = AOpRun P dr b Q op dst anc l k s log := by
  rw [AOpRun_eq]; rfl
theorem ARun_some {t : Nat} {want : Bool} : ARun P dr b Q (⟨dst,op,some (some t,want),anc⟩ :: l) k s log = AGuard P dr b Q (eget s.env t) want op dst anc l k s log := by
  unfold AGuard
  rw [AOpRun_eq]
  simp only [ARun,gsplit]
  all_goals (cases eget s.env t <;> first | rfl | (rename_i v; cases v <;> rfl))
theorem ARun_skip {want : Bool} : ARun P dr b Q (⟨dst,op,some (none,want),anc⟩ :: l) k s log = ARun P dr b Q l (k + 1) (s.app dst (.val undef) []) log := rfl
theorem AGo_some {ef : Eff} : AGo P dr b Q (some ef) dst anc l k s log = (okLog dr log anc ef.rd (ef.up.map (·.1)) = true ∧ ARun P dr b Q l (k + 1) (s.app dst ef.d ef.up) ((k,ef.rd,ef.up.map (·.1)) :: log)) := rfl
theorem AGo_ok {ef : Eff} (h : okLog dr log anc ef.rd (ef.up.map (·.1)) = true) : AGo P dr b Q (some ef) dst anc l k s log = ARun P dr b Q l (k + 1) (s.app dst ef.d ef.up) ((k,ef.rd,ef.up.map (·.1)) :: log) := by rw [AGo_some]; simp [h]
theorem AGo_f {ef : Eff} : AGo P false b Q (some ef) dst anc l k s log = ARun P false b Q l (k + 1) (s.app dst ef.d ef.up) ((k,ef.rd,ef.up.map (·.1)) :: log) := by rw [AGo_some]; simp [okLog]
theorem AG_tt : AGuard P dr b Q (.val (.bool true)) true op dst anc l k s log = AOpRun P dr b Q op dst anc l k s log := by simp [AGuard]
theorem AG_ff : AGuard P dr b Q (.val (.bool false)) false op dst anc l k s log = AOpRun P dr b Q op dst anc l k s log := by simp [AGuard]
theorem AG_tf : AGuard P dr b Q (.val (.bool true)) false op dst anc l k s log = ARun P dr b Q l (k + 1) (s.app dst (.val undef) []) log := by simp [AGuard]
theorem AG_ft : AGuard P dr b Q (.val (.bool false)) true op dst anc l k s log = ARun P dr b Q l (k + 1) (s.app dst (.val undef) []) log := by simp [AGuard]
theorem AG_un {want : Bool} : AGuard P dr b Q (.val undef) want op dst anc l k s log = ARun P dr b Q l (k + 1) (s.app dst (.val undef) []) log := rfl
theorem ago_if {c : Prop} [Decidable c] {e1 e2 : Option Eff} (hc : c) (h : AGo P dr b Q e1 dst anc l k s log) : AGo P dr b Q (if c then e1 else e2) dst anc l k s log := by rw [if_pos hc]; exact h
theorem okLog_e : okLog dr log anc [] [] = true := by simp [okLog]
theorem acall {f : FuncId} {first caps args args' : List D} {d : D} (hA : AC P f args' [] [] d) (V : List Nat) (hv : VwL (hget s.hp) V (first ++ args ++ caps) args') (hV : V = [] ∨ Flat d) (hlive : ∀ g ∈ V, ∃ c,hget s.hp g = some c) (hl : okLog dr log anc V [] = true)
    (h : ARun P dr b Q l (k + 1) (s.app dst d []) ((k,V,[]) :: log)) : ACallK P dr b Q (.fn f first caps) args dst anc l k s log := by
  obtain ⟨h1,h2⟩ := hv.get
  exact ⟨f,first,caps,args',[],[],d,V,rfl,hA,h1,h2,hV.imp id fun h => ⟨h,by simp⟩,by simp,hlive,by simp,by simp,by simp [okNew],by simpa using hl,by simpa using h⟩
theorem acall0 {f : FuncId} {first caps args : List D} {d : D} (hA : AC P f (first ++ args ++ caps) [] [] d)
    (h : ARun P dr b Q l (k + 1) (s.app dst d []) ((k,[],[]) :: log)) : ACallK P dr b Q (.fn f first caps) args dst anc l k s log :=
  acall hA [] (VwL.refl _) (.inl rfl) (by simp) okLog_e h
theorem acallH {f : FuncId} {first caps args args' : List D} {d : D} {h : Hp} {up : Ups} (hA : AC P f args' h up d) (V : List Nat) (hv : VwL (hget s.hp) V (first ++ args ++ caps) args') (hV : V = [] ∨ (Flat d ∧ ∀ x ∈ up, ∀ c,x.2 = some c → ∀ e ∈ c,Flat e))
    (hd : ∀ g ∈ V,g ∉ h.map (·.1) ∧ g ∉ up.map (·.1)) (hlive : ∀ g ∈ V, ∃ c,hget s.hp g = some c) (hh : ∀ x ∈ h,hget s.hp x.1 = some x.2) (hf : ∀ g ∈ up.map (·.1),g ∉ h.map (·.1) → hget s.hp g = none) (hn : okNew s.hp (b + 8 * k) (up.map (·.1)) = true)
    (hl : okLog dr log anc (h.map (·.1) ++ V) (up.map (·.1)) = true) (hK : ARun P dr b Q l (k + 1) (s.app dst d up) ((k,h.map (·.1) ++ V,up.map (·.1)) :: log)) : ACallK P dr b Q (.fn f first caps) args dst anc l k s log := by
  obtain ⟨h1,h2⟩ := hv.get
  exact ⟨f,first,caps,args',h,up,d,V,rfl,hA,h1,h2,hV,hd,hlive,hh,hf,hn,hl,hK⟩
end
end Go.Proofs.YtbncpngjclabhaaGreat.Lift
namespace Go.Proofs.YtbncpngjclabhaaGreat.Lift
open Go Go.RowKit

def VR (H : Heap) (V : List Nat) (m : List (Nat × Nat)) (d d' : D) : Prop := ∃ d1,Vw H V d d1 ∧ Ren m d1 d'
def VRE (H : Heap) (V : List Nat) (m : List (Nat × Nat)) (env : Env) : Env → Prop
  | [] => True
  | x :: r => VR H V m (eget env x.1) x.2 ∧ VRE H V m env r
def VRL (H : Heap) (V : List Nat) (m : List (Nat × Nat)) : List D → List D → Prop
  | [],[] => True
  | x :: r,y :: r' => VR H V m x y ∧ VRL H V m r r'
  | _,_ => False
def VRH (hp : Hp) (V : List Nat) (m : List (Nat × Nat)) (nx : Nat) : Hp → Prop
  | [] => True
  | x :: r => (∃ g,m.lookup x.1 = some g ∧ ((∃ c,hget hp g = some c ∧ g ∉ V ∧ VRL (hget hp) V m c x.2) ∨ (x.2 = [] ∧ hget hp g = none ∧ nx ≤ g))) ∧ VRH hp V m nx r
theorem VRL.split {H : Heap} {V : List Nat} {m : List (Nat × Nat)} : ∀ {c c' : List D},VRL H V m c c' → ∃ c1,VwL H V c c1 ∧ RenL m c1 c'
  | [],[],_ => ⟨[],trivial,trivial⟩
  | [],_ :: _,h => h.elim
  | _ :: _,[],h => h.elim
  | _ :: _,_ :: _,h => by
    obtain ⟨c1,h1,h2⟩ := VRL.split h.2
    obtain ⟨d1,h3,h4⟩ := h.1
    exact ⟨d1 :: c1,⟨h3,h1⟩,⟨h4,h2⟩⟩
theorem RenE.more {m : List (Nat × Nat)} {k : Nat} {d : D} {e1 : Env} : ∀ {env' : Env},k ∉ env'.map (·.1) → RenE m e1 env' → RenE m ((k,d) :: e1) env'
  | [],_,_ => trivial
  | (t,x) :: r,hk,h => by
    simp only [List.map_cons,List.mem_cons,not_or] at hk
    refine ⟨?_,RenE.more hk.2 h.2⟩
    have := h.1
    simpa [eget,hk.1] using this
theorem VRE.split {H : Heap} {V : List Nat} {m : List (Nat × Nat)} {env : Env} : ∀ {env' : Env},(env'.map (·.1)).Nodup → VRE H V m env env' → ∃ e1,VwE H V env e1 ∧ RenE m e1 env'
  | [],_,_ => ⟨[],trivial,trivial⟩
  | (k,x) :: r,hn,h => by
    simp only [List.map_cons,List.nodup_cons] at hn
    obtain ⟨e1,h1,h2⟩ := VRE.split hn.2 h.2
    obtain ⟨d1,h3,h4⟩ := h.1
    refine ⟨(k,d1) :: e1,⟨h3,h1⟩,?_,RenE.more hn.1 h2⟩
    simpa [eget] using h4
theorem RenH.more {m : List (Nat × Nat)} {k g : Nat} {c : List D} {e1 : Hp} (hinj : ∀ a,m.lookup a = some g → a = k) : ∀ {hp' : Hp},k ∉ hp'.map (·.1) → RenH m e1 hp' → RenH m ((g,c) :: e1) hp'
  | [],_,_ => trivial
  | (t,x) :: r,hk,h => by
    simp only [List.map_cons,List.mem_cons,not_or] at hk
    refine ⟨?_,RenH.more hinj hk.2 h.2⟩
    obtain ⟨g1,c1,h1,h2,h3⟩ := h.1
    refine ⟨g1,c1,h1,?_,h3⟩
    have : ¬ g = g1 := fun h4 => hk.1 (hinj t (h4 ▸ h1)).symm
    simpa [hget,this] using h2
theorem VRH.split {hp : Hp} {V : List Nat} {m : List (Nat × Nat)} {nx : Nat} (hinj : ∀ a a' b,m.lookup a = some b → m.lookup a' = some b → a = a') : ∀ {hp' : Hp},(hp'.map (·.1)).Nodup → VRH hp V m nx hp' → ∃ e1,VwH hp V nx e1 ∧ RenH m e1 hp'
  | [],_,_ => ⟨[],trivial,trivial⟩
  | (k,x) :: r,hn,h => by
    simp only [List.map_cons,List.nodup_cons] at hn
    obtain ⟨e1,h1,h2⟩ := VRH.split hinj hn.2 h.2
    obtain ⟨g,hg,h3⟩ := h.1
    rcases h3 with ⟨c,h4,h5,h6⟩ | ⟨h4,h5,h6⟩
    · obtain ⟨c1,h7,h8⟩ := h6.split
      exact ⟨(g,c1) :: e1,⟨.inl ⟨c,h4,h5,h7⟩,h1⟩,⟨g,c1,hg,by simp [hget],h8⟩,RenH.more (fun a ha => hinj a k g ha hg) hn.1 h2⟩
    · cases h4
      exact ⟨(g,[]) :: e1,⟨.inr ⟨rfl,h5,h6⟩,h1⟩,⟨g,[],hg,by simp [hget],trivial⟩,RenH.more (fun a ha => hinj a k g ha hg) hn.1 h2⟩
def liveB (V : List Nat) (hp : Hp) : Bool := V.all fun g => (hget hp g).isSome
def preB (V : List Nat) (hp : Hp) (pre : List Nat) : Bool := V.isEmpty || pre.all fun g => !V.contains g && (hget hp g).isSome
theorem liveB_get {V : List Nat} {hp : Hp} (h : liveB V hp = true) : ∀ g ∈ V, ∃ c,hget hp g = some c := fun g hg => by
  simp only [liveB,List.all_eq_true] at h
  exact Option.isSome_iff_exists.1 (h g hg)
theorem preB_get {V : List Nat} {hp : Hp} {pre : List Nat} (h : preB V hp pre = true) : V = [] ∨ ∀ g0 ∈ pre,g0 ∉ V ∧ (hget hp g0).isSome = true := by
  simp only [preB,Bool.or_eq_true,List.isEmpty_iff,List.all_eq_true,Bool.and_eq_true,Bool.not_eq_true'] at h
  exact h.imp id fun h g hg => ⟨by have := (h g hg).1; simpa using this,(h g hg).2⟩
theorem wk_to {pre : List Nat} {s s' : St} (V : List Nat) (m : List (Nat × Nat)) (hok : okRen m pre s'.nx = true) (hd : decide (s'.env.map (·.1)).Nodup = true) (hd' : decide (s'.hp.map (·.1)).Nodup = true)
    (hV : liveB V s.hp = true) (hpre : preB V s.hp pre = true) (hE : VRE (hget s.hp) V m s.env s'.env) (hH : VRH s.hp V m s.nx s'.hp) : Wk pre s s' := by
  obtain ⟨e1,h1,h2⟩ := hE.split (of_decide_eq_true hd)
  obtain ⟨p1,h3,h4⟩ := hH.split (fun a a' b => okRen.inj hok) (of_decide_eq_true hd')
  exact (wk_view (s' := ⟨e1,p1,s.nx⟩) V h1 h3 (liveB_get hV) (preB_get hpre) (Nat.le_refl _)).trans (wk_ren m hok h2 h4)
section
variable {H : Heap} {V : List Nat} {m : List (Nat × Nat)}
theorem vr_val (v : Value) : VR H V m (.val v) (.val v) := ⟨_,.refl _,.val v⟩
theorem vr_list (l : List (List D)) : VR H V m (.list l) (.list l) := ⟨_,.refl _,.list l⟩
theorem vr_at (l : List D) : VR H V m (.at_ l) (.at_ l) := ⟨_,.refl _,.at_ l⟩
theorem vr_flat (d : D) (h : In (fun _ => False) d) : VR H V m d d := ⟨_,.refl _,.flat d h⟩
theorem vr_bot (d : D) : VR H V m d .bot := ⟨_,.bot d,.bot _⟩
theorem vr_nil : VR H V m (.val (.slice none 0 0)) (.list []) := ⟨_,.nil,.list []⟩
theorem vr_nilv (g g' sz : Nat) (h : m.lookup g' = some g) : VR H V m (.val (.slice none 0 0)) (.vec g' 0 sz) := ⟨_,.nilv g sz,.vec g g' 0 sz h⟩
theorem vr_cap0 : VR H V m .cap0 .cap0 := ⟨_,.refl _,.cap0⟩
theorem vr_cap0v (g g' sz : Nat) (h : m.lookup g' = some g) : VR H V m .cap0 (.vec g' 0 sz) := ⟨_,.cap0v g sz,.vec g g' 0 sz h⟩
theorem vr_cap0l : VR H V m .cap0 (.list []) := ⟨_,.cap0,.list []⟩
theorem vr_vec (g g' n sz : Nat) (h : m.lookup g' = some g) : VR H V m (.vec g n sz) (.vec g' n sz) := ⟨_,.refl _,.vec g g' n sz h⟩
theorem vr_own (g g' off n sz : Nat) (h : m.lookup g' = some g) : VR H V m (.own g off n sz) (.own g' off n sz) := ⟨_,.refl _,.own g g' off n sz h⟩
theorem vr_ptr (g g' off : Nat) (h : m.lookup g' = some g) : VR H V m (.ptr g off) (.ptr g' off) := ⟨_,.refl _,.ptr g g' off h⟩
theorem vr_fz (g n sz : Nat) (c : List D) (l : List (List D)) (h1 : g ∈ V) (h2 : H g = some c) (h3 : n * sz ≤ c.length) (h4 : ∀ e ∈ l,e.length = sz) (h5 : l.length = n) (h6 : l.flatten = c.take (n * sz)) (h7 : ∀ d ∈ c,In (fun _ => False) d) : VR H V m (.vec g n sz) (.list l) :=
  ⟨_,.vec g n sz c l h1 h2 h3 h4 h5 h6 h7,.list l⟩
theorem vr_fl (g n sz : Nat) (c : List D) (l : List (List D)) (h1 : g ∈ V) (h2 : H g = some c) (h4 : ∀ e ∈ l,e.length = sz) (h5 : l.length = n) (h6 : l.flatten = c) (h7 : ∀ d ∈ c,In (fun _ => False) d) : VR H V m (.vec g n sz) (.list l) := by
  have hl : ∀ l : List (List D),(∀ e ∈ l,e.length = sz) → l.flatten.length = l.length * sz := by
    intro l
    induction l with
    | nil => simp
    | cons x l ih =>
      intro h
      simp only [List.flatten_cons,List.length_append,List.length_cons,ih fun e he => h e (List.mem_cons_of_mem _ he),h x (List.mem_cons_self ..)]
      rw [Nat.succ_mul]; omega
  have := hl l h4
  rw [h6,h5] at this
  exact vr_fz g n sz c l h1 h2 (by omega) h4 h5 (by rw [h6,List.take_of_length_le (by omega)]) h7
theorem vr_mp (g g' : Nat) (h : m.lookup g' = some g) : VR H V m (.mp g) (.mp g') := ⟨_,.refl _,.mp g g' h⟩
theorem vr_agg {k l : List D} (h : VRL H V m k l) : VR H V m (.agg k) (.agg l) := by
  obtain ⟨k1,h1,h2⟩ := h.split
  obtain ⟨h3,h4⟩ := h1.get
  obtain ⟨h5,h6⟩ := h2.get
  exact ⟨.agg k1,.agg k k1 h3 h4,.agg k1 l h5 h6⟩
theorem vr_tup {k l : List D} (h : VRL H V m k l) : VR H V m (.tup k) (.tup l) := by
  obtain ⟨k1,h1,h2⟩ := h.split
  obtain ⟨h3,h4⟩ := h1.get
  obtain ⟨h5,h6⟩ := h2.get
  exact ⟨.tup k1,.tup k k1 h3 h4,.tup k1 l h5 h6⟩
end
def EndVR (s : St) (m : List (Nat × Nat)) (V : List Nat) : Ups → Prop
  | [] => True
  | (g,some c') :: r => (∃ o,m.lookup g = some o ∧ ∃ c,hget s.hp o = some c ∧ o ∉ V ∧ VRL (hget s.hp) V m c c') ∧ EndVR s m V r
  | (_,none) :: r => EndVR s m V r
theorem EndVR.get {s : St} {m : List (Nat × Nat)} {V : List Nat} : ∀ {up : Ups},EndVR s m V up → EndH s m V up
  | [],_ => trivial
  | (_,some _) :: _,h => by
    obtain ⟨o,h1,c,h2,h3,h4⟩ := h.1
    obtain ⟨c1,h5,h6⟩ := h4.split
    exact ⟨⟨o,c,c1,h1,h2,h3,h5,h6⟩,EndVR.get h.2⟩
  | (_,none) :: r,h => EndVR.get (up := r) h
theorem end_to {rs : List AResV} {h : Hp} {up : Ups} {d d0 : D} {e : AExit} {s : St} (V : List Nat) (m : List (Nat × Nat)) (he : e = .norm ∨ e = .ret) (hr : resD rs s = some d0) (hV : liveB V s.hp = true) (hpre : preB V s.hp (h.map (·.1)) = true) (hok : okEnd m h up = true) (hv : VR (hget s.hp) V m d0 d) (hU : EndVR s m V up) : endQ rs h up d e s := by
  obtain ⟨d1,h1,h2⟩ := hv
  exact ⟨he,d0,V,d1,m,hr,h1,h2,liveB_get hV,preB_get hpre,hok,hU.get⟩
theorem vrl_flat {H : Heap} {V : List Nat} {m : List (Nat × Nat)} : ∀ c : List D,(∀ d ∈ c,In (fun _ => False) d) → VRL H V m c c
  | [],_ => trivial
  | d :: c,h => ⟨vr_flat d (h d (List.mem_cons_self ..)),vrl_flat c fun x hx => h x (List.mem_cons_of_mem _ hx)⟩
theorem aw_cut {rd : Rd} {P : Program} {n : Nat} {pre : List Nat} {c1 c2 : ACode} {Q : AExit → St → Prop} {s : St} (S0 : St) (h : AWb rd P n pre c1 (thenQ (fun s => Wk pre s S0) Q) s) (k : AWb rd P n pre c2 Q S0) : AWb rd P n pre (c1.seq c2) Q s :=
  aw_seq (aw_mono h fun e s' hq => by cases e with
    | norm => exact aw_wk hq k
    | _ => exact hq)
theorem cast_lit (n : Nat) : ((no_index (OfNat.ofNat n) : Nat) : Int) = OfNat.ofNat n := rfl
theorem wrap_in {x : Int} (h1 : -9223372036854775808 ≤ x) (h2 : x ≤ 9223372036854775807) : IntKind.i64.wrap x = x := IntWalk.i64_in _ (by omega)
end Go.Proofs.YtbncpngjclabhaaGreat.Lift
namespace Go.Proofs.YtbncpngjclabhaaGreat.Lift
open Go Go.RowKit

structure LoopIs (P : Program) (n : Nat) (ps : List Nat) (asg : List (Nat × Nat)) (cb : ACode) (r : Loop) : Prop where
  ready : r.state = .ready
  pend : r.pending = none
  size : r.tmps.size = n
  pars : r.params.toList = ps
  plt : ∀ p ∈ ps,p < n
  asg : compAsg n r.assign = some asg
  body : ∃ keep,compCode P n keep r.body = some cb
def parE : Env → List Nat → List D → Env
  | e,p :: ps,d :: ds => parE (eput e p d) ps ds
  | e,_,_ => e
def kOK (k : List D) : Bool := k.all fun d => match d with
  | .yld _ _ k' => k'.all (noY 9)
  | d => noY 9 d
def hpY (h : Hp) : Bool := h.all fun x => x.2.all (noY 9)
def EK (env : Env) (pin : List Nat) : Env → Prop
  | [] => True
  | x :: r => (x.2 = .bot ∨ (x.2 = eget env x.1 ∧ In (· ∈ pin) x.2)) ∧ EK env pin r
theorem EK.get {env : Env} {pin : List Nat} : ∀ {e : Env},EK env pin e → ∀ t,eget e t = .bot ∨ (eget e t = eget env t ∧ In (· ∈ pin) (eget e t))
  | [],_,t => .inl rfl
  | (k,d) :: r,h,t => by
    rw [get_cons]
    split
    · rename_i hk; subst hk; exact h.1
    · exact EK.get h.2 t
section
variable {P : Program} {w : World} {β : Bet} {Z : Blk}
def EnvR (w : World) (β : Bet) (Z : Blk) (T : Array Value) (env : Env) : Prop := ∀ t,Rep w β Z (T.getD t undef) (eget env t)
theorem EnvR.put {T : Array Value} {env : Env} {p : Nat} {v : Value} {d : D} (h : EnvR w β Z T env) (hp : p < T.size) (hv : Rep w β Z v d) : EnvR w β Z (T.setIfInBounds p v) (eput env p d) := fun t => by
  rw [get_put]
  by_cases ht : p = t
  · subst ht
    rw [if_pos rfl]
    have : (T.setIfInBounds p v).getD p undef = v := by simp [hp]
    rw [this]; exact hv
  · rw [if_neg ht]
    have : (T.setIfInBounds p v).getD t undef = T.getD t undef := by simp [Array.getElem?_setIfInBounds_ne ht]
    rw [this]; exact h t
theorem EnvR.pars : ∀ (ps : List Nat) (vs : List Value) (ds : List D) (T : Array Value) (env : Env),EnvR w β Z T env → (∀ p ∈ ps,p < T.size) → vs.length = ds.length → (∀ i (h : i < vs.length) (h' : i < ds.length),Rep w β Z vs[i] ds[i]) →
    EnvR w β Z ((ps.zip vs).foldl (fun t (p,v) => t.setIfInBounds p v) T) (parE env ps ds) ∧ ((ps.zip vs).foldl (fun t (p,v) => t.setIfInBounds p v) T).size = T.size
  | [],_,_,T,env,h,_,_,_ => ⟨h,rfl⟩
  | p :: ps,[],[],T,env,h,_,_,_ => ⟨h,rfl⟩
  | p :: ps,[],_ :: _,T,env,h,_,hl,_ => by simp at hl
  | p :: ps,_ :: _,[],T,env,h,_,hl,_ => by simp at hl
  | p :: ps,v :: vs,d :: ds,T,env,h,hp,hl,hr => by
    have h1 := EnvR.pars ps vs ds (T.setIfInBounds p v) (eput env p d) (h.put (hp p (List.mem_cons_self ..)) (hr 0 (by simp) (by simp))) (fun q hq => by simpa using hp q (List.mem_cons_of_mem _ hq)) (by simpa using hl)
      fun i hi hi' => hr (i + 1) (by simpa using hi) (by simpa using hi')
    exact ⟨h1.1,h1.2.trans (by simp)⟩
end

theorem RelS.same {C : Ctx} {β : Bet} {Z : Blk} {s : FSt} {a a' : Act} {w : World} (h : RelS C β Z s a w) (ht : a'.tmps = a.tmps) (hd : a'.defers = a.defers) : RelS C β Z s a' w :=
  ⟨by rw [ht]; exact h.size,by rw [hd]; exact h.defers,fun t => by rw [ht]; exact h.env t,h.objs,h.inj,h.fr,h.z0,h.old,h.orig,h.ext,h.zlt⟩

def KE (env : Env) : Nat → List D → Prop
  | _,[] => True
  | i,d :: ds => (d = .bot ∨ d = eget env i) ∧ KE env (i + 1) ds
theorem KE.get {env : Env} : ∀ {ds : List D} {k : Nat},KE env k ds → ∀ i (h : i < ds.length),ds[i] = .bot ∨ ds[i] = eget env (k + i)
  | [],_,_,i,h => by simp at h
  | d :: ds,k,hk,i,h => by
    cases i with
    | zero => exact hk.1
    | succ i =>
      have := hk.2.get i (by simpa using h)
      simpa [Nat.add_assoc,Nat.add_comm 1 i] using this
theorem RelS.name {C : Ctx} {β : Bet} {Z : Blk} {s : FSt} {a : Act} {w : World} {id B : Nat} (h : RelS C β Z s a w) (hn : s.H id = none) (hb : β id = none) : RelS C (setB β id (some B)) Z s a w := by
  have he : Ext β (setB β id (some B)) := setB_ext hb
  have hlive : ∀ g c,s.H g = some c → g ≠ id := fun g c hc h => by subst h; rw [hn] at hc; cases hc
  have hb' : ∀ g c,s.H g = some c → setB β id (some B) g = β g := fun g c hc => by simp [setB,hlive g c hc]
  have f : Fr (fun _ => False) w w := Fr.refl _ w
  exact ⟨h.size,h.defers,fun t => (h.env t).mono f (fun _ _ h => h.elim) he (fun _ _ h => h),fun g c hc => (h.objs g c hc).mono f (fun _ _ h => h.elim) (fun _ _ h => h) he (fun hh => (hb' g c hc).trans hh) (fun _ _ => Iff.rfl),fun g g' c c' B' hc hc' h1 h2 => h.inj g g' c c' B' hc hc' ((hb' g c hc).symm.trans h1) ((hb' g' c' hc').symm.trans h2),
    h.fr,h.z0,h.old,fun g c B' hc h1 => h.orig g c B' hc ((hb' g c hc).symm.trans h1),fun g hg B' hB => he _ _ (h.ext g hg B' hB),h.zlt⟩
theorem run_rangeCall {P : Program} {W : World} {a : Act} {g : Operand} {l : Nat} {f : FuncId} {us vs : Array Value} (hg : a.eval g = .func (.func f) us vs) (hok : callOK P f) :
    ∃ d,(resolve a.eval (rangeCall g l) 0).run P W = .ok d W ∧ (invoke d.target d.args).run P W = .ok (.enter f (us ++ #[.func (.yield l) #[] #[]] ++ vs)) W := by
  obtain ⟨fn,hfn,hname,hbody⟩ := hok
  have hb : fn.body.isNone = false := by cases h : fn.body <;> simp_all
  refine ⟨{ target := .fn (.func f) vs,args := us ++ #[.func (.yield l) #[] #[]] },?_,?_⟩
  · simp only [resolve,rangeCall,hg]
    simp [go_sem,Deferred.ofValue]
  · simp only [invoke,callFunc,run_program,hfn,Sem.run_bind,Sem.run_pure,Result.andThen_ok]
    simp [hname,hb]
theorem wpOps_pre {P : Program} {ops : Array Oper} {base : Nat} {C : Ctx} {Q : FSt → Prop} {Q' : Exit → Act → World → Prop} {rest : List Nat} {K : Nat} (hd : ∀ o ∈ ops, ∀ d,o.dst = some d → d < C.n) (hpl : ∀ o ∈ ops, ∀ c,o.op ≠ .defer c)
    (hQ : ∀ s a w β Z,RelS C β Z s a w → FreeB base (fun j => j < K) β → Q s → wpOpsIn (Fw C.r) 0 P ops Q' rest a w) : ∀ (l : List Oper) (k : Nat) (s : FSt) (log : Log) (a : Act) (w : World) (β : Bet) (Z : Blk),(∀ j,j < l.length → l[j]? = ops[k + j]?) → k + l.length = K →
    RelS C β Z s a w → FreeB base (fun j => j < k) β → aLex false P .any ops base Q l k s log → wpOpsIn (Fw C.r) 0 P ops Q' (List.range' k l.length ++ rest) a w
  | [],k,s,log,a,w, β,Z,hl,hk,h,hf,ha => hQ _ _ _ _ _ h (by simpa [← hk] using hf) ha
  | o :: l,k,s,log,a,w, β,Z,hl,hk,h,hf,ha => by
    have h0 : ops[k]? = some o := by simpa using (hl 0 (by simp)).symm
    obtain ⟨s',log',hst,hK⟩ := ha
    rw [List.length_cons,List.range'_succ,List.cons_append,wpOpsIn_cons]
    exact stepA_wpOp (done' := fun j => j < k + 1) h0 h hd hpl hf (by simp) (fun j hj => Nat.lt_succ_of_lt hj) (by simp) hst fun β' Z' a' w' hr hf' =>
      wpOps_pre hd hpl hQ l (k + 1) _ _ _ _ β' Z' (fun j hj => by have := hl (j + 1) (by simpa using hj); simpa [Nat.add_assoc,Nat.add_comm 1 j] using this) (by simpa [Nat.add_assoc,Nat.add_comm 1] using hk) hr hf' hK
theorem compOps_app {P : Program} {n : Nat} {ops : Array Oper} {ans : List (List Nat)} : ∀ (l : List Oper) (k : Nat) (a b : List AOper),compOps P n ops ans l k = some (a ++ b) → ∃ l1 l2,l = l1 ++ l2 ∧ l1.length = a.length ∧ l2.length = b.length ∧ compOps P n ops ans l1 k = some a ∧ compOps P n ops ans l2 (k + a.length) = some b
  | l,k,[],b,h => ⟨[],l,rfl,rfl,(compOps_dst _ _ _ h).2.symm,rfl,by simpa using h⟩
  | [],k,x :: a,b,h => by simp [compOps] at h
  | o :: l,k,x :: a,b,h => by
    simp only [compOps] at h
    split at h
    · rename_i x' y' hx hy
      simp only [List.cons_append,Option.some.injEq,List.cons.injEq] at h
      obtain ⟨rfl,rfl⟩ := h
      obtain ⟨l1,l2,rfl,h1,h2,h3,h4⟩ := compOps_app l (k + 1) a b hy
      refine ⟨o :: l1,l2,rfl,by simp [h1],h2,?_,?_⟩
      · simp only [compOps,hx,h3]
      · rw [List.length_cons,show k + (a.length + 1) = k + 1 + a.length by omega]; exact h4
    · cases h
theorem aw_region_cut {rd : Rd} {P : Program} {n : Nat} {pre : List Nat} {Q : AExit → St → Prop} {s : St} (ops1 ops2 : List AOper) {drop : List Nat}
    (h : ARun P false s.nx (fun s' => ∃ s0,Wk pre ⟨s'.env,s'.hp,s.nx + 8 * ops1.length⟩ s0 ∧ 8 * ops1.length ≤ s0.nx ∧ ARun P false (s0.nx - 8 * ops1.length) (fun s2 => Q .norm ⟨dropE s2.env drop,s2.hp,s0.nx + 8 * ops2.length⟩) ops2 ops1.length s0 []) ops1 0 s []) :
    AWb rd P n pre (.region false (ops1 ++ ops2) drop) Q s := fun code keep hc C a w hn hp hd hr => by
  cases code with
  | region id oa draw =>
    simp only [compCode] at hc
    split at hc
    · rename_i al hal
      split at hc
      · rename_i hcond
        cases hc
        obtain ⟨β,Z,hR,hβ⟩ := hr
        obtain ⟨hd',hlen⟩ := compOps_dst _ _ _ hal
        have hpl := compOps_plain _ _ _ hal
        obtain ⟨l1,l2,hl,e1,e2,e3,e4⟩ := compOps_app _ _ _ _ hal
        rw [Nat.zero_add] at e4
        have hans : ∀ i j,j ∈ (([] : List (List Nat))[i]?).getD [] → Anc .any oa i j := by simp
        have hdo : ∀ o ∈ oa, ∀ d,o.dst = some d → d < C.n := fun o ho d hdd => hn ▸ hd' o (by simpa using ho) d hdd
        have hplo : ∀ o ∈ oa, ∀ c,o.op ≠ .defer c := fun o ho => hpl o (by simpa using ho)
        have hsz : oa.size = l1.length + l2.length := by have := congrArg List.length hl; simpa using this
        refine wpIn_region ?_
        have hrange : List.range oa.size = List.range' 0 l1.length ++ List.range' l1.length l2.length := by
          rw [List.range_eq_range',hsz]
          have := List.range'_append (s := 0) (m := l1.length) (n := l2.length) (step := 1)
          simpa using this.symm
        rw [hrange]
        have hget : ∀ j,oa[j]? = (l1 ++ l2)[j]? := fun j => by rw [← hl,Array.getElem?_toList]
        refine wpOps_pre (base := s.nx) (K := l1.length) hdo hplo ?_ l1 0 _ (fun _ _ => False) a w β Z (fun j hj => by rw [Nat.zero_add,hget,List.getElem?_append_left hj]) (by simp) hR (fun g hg hn => absurd (hβ g hg) hn)
          (arun_lex hans l1 ops1 0 s [] _ e3 (fun j ef hf => hf.elim) h)
        rintro fs a' w' β' Z' hR' hF ⟨s',rfl,_,s0,hwk,hge,hrun⟩
        obtain ⟨β0,Z0,hR0,hβ0⟩ := hwk C a' w' hp ⟨β',Z',hR',fun g hg => by
          cases hb : β' g with
          | none => rfl
          | some B =>
            simp only at hg
            obtain ⟨j,hj,h1,h2⟩ := hF g (by omega) (by rw [hb]; simp)
            omega⟩
        have hr2 := wpOps_pre (P := P) (ops := oa) (base := s0.nx - 8 * ops1.length) (K := l1.length + l2.length) (C := C) (Q' := PostQ C Q) (rest := []) hdo hplo
          (Q := fun fs => ∃ s2 : St,fs = s2.F ∧ s2.nx = s0.nx ∧ Q .norm ⟨dropE s2.env _,s2.hp,s0.nx + 8 * ops2.length⟩) ?_ l2 l1.length _ (fun _ _ => False) a' w' β0 Z0 (fun j hj => by rw [hget,List.getElem?_append_right (by omega)]; simp) rfl hR0 (fun g hg hn0 => by
            by_cases hgn : s0.nx ≤ g
            · exact absurd (hβ0 g hgn) hn0
            · refine ⟨(g - (s0.nx - 8 * ops1.length)) / 8,?_,?_,?_⟩ <;> omega)
          (arun_lex hans l2 ops2 l1.length s0 [] _ (by rw [e1]; exact e4) (fun j ef hf => hf.elim) (by rw [e1]; exact hrun))
        · simpa using hr2
        · rintro fs a2 w2 β2 Z2 hR2 hF2 ⟨s2,rfl,_,hQ⟩
          refine ⟨_,hQ, β2,Z2,⟨hR2.size,hR2.defers,fun t => ?_,hR2.objs,hR2.inj,hR2.fr,hR2.z0,hR2.old,hR2.orig,hR2.ext,hR2.zlt⟩,fun g hg => ?_⟩
          · show Rep w2 β2 Z2 _ (eget (dropE s2.env _) t)
            rcases get_drop s2.env _ t with h1 | h1
            · rw [h1]; exact hR2.env t
            · rw [h1]; exact .bot _
          · cases hb : β2 g with
            | none => rfl
            | some B =>
              simp only at hg
              obtain ⟨j,hj,h1,h2⟩ := hF2 g (by omega) (by rw [hb]; simp)
              omega
      · cases hc
    · cases hc
  | seq a b => simp only [compCode] at hc; split at hc <;> cases hc
  | cond c a b => simp only [compCode] at hc; split at hc <;> cases hc
  | block id a => simp [compCode] at hc
  | loop a => simp [compCode] at hc
  | rangeFunc x1 x2 x3 x4 => simp only [compCode] at hc; repeat' (first | (cases hc; done) | split at hc)
  | _ => cases hc

theorem hpY_get {h : Hp} (hy : hpY h = true) {g : Nat} {c : List D} (hc : hget h g = some c) : ∀ d ∈ c,noY 9 d = true := fun d hd =>
  List.all_eq_true.1 (List.all_eq_true.1 hy _ (hget_mem hc)) d hd
def liveBlk (h : Hp) (β : Bet) : Blk := fun b => ∃ g c,hget h g = some c ∧ β g = some b
theorem live_ours {h : Hp} {β : Bet} {Z : Blk} {w : World} (ho : ∀ g c,hget h g = some c → Holds w β Z g c) : ∀ b,liveBlk h β b → Z b := by
  rintro b ⟨g,c,hc,hB⟩
  obtain ⟨cs,e,hO⟩ := (ho g c hc).real hB
  exact hO.ours
theorem RelS.back {C C2 : Ctx} {β1 β2 : Bet} {Z1 Z2 : Blk} {s1 : St} {s2 : St} {a1 a1' a2 : Act} {w1 w3 w4 : World} {env' : Env} {pin : List Nat} (h1 : RelS C β1 Z1 s1.F a1 w1) (h2 : RelS C2 β2 Z2 s2.F a2 w3)
    (hBl : ∀ b,C2.preB b → liveBlk s1.hp β1 b) (hZl : C2.Zl = fun b => b < C.w0.heap.size ∧ C.Zl b) (hZ0 : C2.Z0 = Z1) (hβ : ∀ g ∈ pin,C2.β0 g = β1 g) (hpin : C2.pre = pin) (hw0 : w1.heap.size ≤ C2.w0.heap.size)
    (hsub : ∀ g ∈ C.pre,g ∈ pin) (hf : Fr (liveBlk s1.hp β1) w1 w4) (hsw : ∀ {v d},noY 9 d = true → Rep w3 β2 Z2 v d → Rep w4 β2 Z2 v d) (hob : ∀ {g c},hget s2.hp g = some c → (∀ d ∈ c,noY 9 d = true) → Holds w3 β2 Z2 g c → Holds w4 β2 Z2 g c)
    (hy : hpY s2.hp = true) (hs4 : w3.heap.size ≤ w4.heap.size) (hE : EK s1.env pin env') (ht : a1'.tmps = a1.tmps) (hdf : a1'.defers.Nodup ∧ ∀ d ∈ a1'.defers,Mk C.lo w4 Z2 d) : RelS C β2 Z2 ⟨eget env',hget s2.hp⟩ a1' w4 := by
  have hZ21 : ∀ b,b < w1.heap.size → Z2 b → Z1 b := fun b hb hz => by
    have := h2.old b (by omega) hz
    rwa [hZ0] at this
  have hX : ∀ b,b < w1.heap.size → liveBlk s1.hp β1 b → Z1 b := by
    rintro b _ ⟨g,c,hc,hB⟩
    obtain ⟨cs,e,hO⟩ := (h1.objs g c hc).real hB
    exact hO.ours
  have hext : ∀ g ∈ pin, ∀ B, β1 g = some B → β2 g = some B := fun g hg B hB => h2.ext g (hpin ▸ hg) B ((hβ g hg).trans hB)
  let βp : Bet := fun g => if g ∈ pin then β1 g else none
  have he : Ext βp β2 := fun g B hg => by
    by_cases hp : g ∈ pin
    · exact hext g hp B (by rw [← hg]; exact (if_pos hp).symm)
    · rw [show βp g = none from if_neg hp] at hg; cases hg
  have horig : ∀ b,liveBlk s1.hp β1 b → C.w0.heap.size ≤ b ∨ C.preB b := by
    rintro b ⟨g,c,hc,hB⟩
    exact h1.orig g c b hc hB
  refine ⟨by rw [ht]; exact h1.size,hdf,fun t => ?_,fun g c hc => hob hc (hpY_get hy hc) (h2.objs g c hc),h2.inj,?_,fun b hb hz => ?_,fun b hb hz => ?_,fun g c B hc hB => ?_,fun g hg B hB => hext g (hsub g hg) B (h1.ext g hg B hB),fun b hb => Nat.lt_of_lt_of_le (h2.zlt b hb) hs4⟩
  · rw [ht]
    rcases hE.get t with h | ⟨h,hin⟩
    · show Rep w4 β2 Z2 _ (eget env' t)
      rw [h]; exact .bot _
    · show Rep w4 β2 Z2 _ (eget env' t)
      have h3 := h1.env t
      have h4 : Rep w1 βp Z1 (a1.tmps.getD t undef) (eget env' t) := by
        rw [h] at hin ⊢
        exact h3.rename hin fun g hg => if_pos hg
      exact h4.mono hf hX he hZ21
  · exact h1.fr.trans hf fun b hb hl => by
      rcases horig b hl with h | h
      · omega
      · exact h
  · refine h2.z0 b (Nat.lt_of_lt_of_le hb (Nat.le_trans h1.fr.size hw0)) ?_
    rw [hZl]; exact ⟨hb,hz⟩
  · exact h1.old b hb (hZ21 b (Nat.lt_of_lt_of_le hb h1.fr.size) hz)
  · rcases h2.orig g c B hc ‹_› with h | h
    · exact .inl (Nat.le_trans h1.fr.size (Nat.le_trans hw0 h))
    · exact horig B (hBl B h)

def YieldQ (P : Program) (len1 : Nat) (ops2 : List AOper) (drop : List Nat) (Q : AExit → St → Prop) (env' : Env) (dst : Option Nat) : AExit → St → Prop := fun e s2 =>
  e = .norm ∧ hpY s2.hp = true ∧ 8 * (len1 + 1) ≤ s2.nx ∧ ARun P false (s2.nx - 8 * (len1 + 1)) (fun s3 => Q .norm ⟨dropE s3.env drop,s3.hp,s2.nx + 8 * ops2.length⟩) ops2 (len1 + 1) ⟨putO env' dst (.val (.bool true)),s2.hp,s2.nx⟩ []
theorem yieldQ {P : Program} {len1 : Nat} {ops2 : List AOper} {drop : List Nat} {Q : AExit → St → Prop} {env' : Env} {dst : Option Nat} {s2 : St} (h1 : hpY s2.hp = true) (h2 : 8 * (len1 + 1) ≤ s2.nx)
    (h3 : ARun P false (s2.nx - 8 * (len1 + 1)) (fun s3 => Q .norm ⟨dropE s3.env drop,s3.hp,s2.nx + 8 * ops2.length⟩) ops2 (len1 + 1) ⟨putO env' dst (.val (.bool true)),s2.hp,s2.nx⟩ []) : YieldQ P len1 ops2 drop Q env' dst .norm s2 := ⟨rfl,h1,h2,h3⟩
theorem vr_yld {H : Heap} {V : List Nat} {m : List (Nat × Nat)} (g : Nat) (r : Loop) (k : List D) (h : m.lookup g = some g) (hk : RenL m k k) : VR H V m (.yld g r k) (.yld g r k) :=
  ⟨_,.refl _,.yld g g r k k h rfl hk.get.2 fun _ _ _ h => h⟩
theorem vr_fn {H : Heap} {V : List Nat} {m : List (Nat × Nat)} (f : FuncId) {k k' l l' : List D} (h1 : VRL H V m k k') (h2 : VRL H V m l l') : VR H V m (.fn f k l) (.fn f k' l') := by
  obtain ⟨k1,h3,h4⟩ := h1.split
  obtain ⟨l1,h5,h6⟩ := h2.split
  obtain ⟨e1,e2⟩ := h3.get
  obtain ⟨e3,e4⟩ := h4.get
  obtain ⟨e5,e6⟩ := h5.get
  obtain ⟨e7,e8⟩ := h6.get
  exact ⟨.fn f k1 l1,.fn f k l k1 l1 e1 e2 e5 e6,.fn f k1 l1 k' l' e3 e4 e7 e8⟩
end Go.Proofs.YtbncpngjclabhaaGreat.Lift
namespace Go.Proofs.YtbncpngjclabhaaGreat.Lift
open Go Go.RowKit

theorem ag_bool {P : Program} {dr : Bool} {b : Nat} {Q : St → Prop} {op : AOp} {dst : Option Nat} {anc : List Nat} {l : List AOper} {k : Nat} {s : St} {log : Lg} {bv want : Bool}
    (h1 : bv = true → AGuard P dr b Q (.val (.bool true)) want op dst anc l k s log) (h2 : bv = false → AGuard P dr b Q (.val (.bool false)) want op dst anc l k s log) : AGuard P dr b Q (.val (.bool bv)) want op dst anc l k s log := by
  cases bv
  · exact h2 rfl
  · exact h1 rfl
end Go.Proofs.YtbncpngjclabhaaGreat.Lift
namespace Go.Proofs.YtbncpngjclabhaaGreat.Lift
open Go Go.RowKit

section
variable {P : Program} {ops : Array Oper} {base : Nat}
end
def gOK (env : Env) : Option (Option Nat × Bool) → Prop
  | none => True
  | some (some t,want) => eget env t = .val (.bool want)
  | some (none,_) => False
def YOf (s : St) (f : Operand) (g : Nat) (r : Loop) (k : List D) : Prop := s.F.ev f = .yld g r k ∨ (s.F.ev f = .yref g ∧ ∃ t,eget s.env t = .yld g r k)
theorem YOf.rep {C : Ctx} {β : Bet} {Z : Blk} {s : St} {a : Act} {w : World} {f : Operand} {g : Nat} {r : Loop} {k : List D} (h : YOf s f g r k) (hR : RelS C β Z s.F a w) : Rep w β Z (a.eval f) (.yld g r k) := by
  have h1 := hR.ev f
  rcases h with h | ⟨h,t,ht⟩
  · rwa [show s.F.ev f = _ from h] at h1
  · rw [show s.F.ev f = _ from h] at h1
    have h2 := hR.env t
    rw [show s.F.env t = _ from ht] at h2
    generalize a.eval f = vf at h1
    generalize a.tmps.getD t undef = vt at h2
    cases h1 with
    | yref _ l' hg' =>
      cases h2 with
      | yld _ l _ _ y1 y2 y3 y4 y5 y6 =>
        obtain rfl : l = l' := Option.some.inj (y1.symm.trans hg')
        exact .yld g l r k y1 y2 y3 y4 y5 y6
theorem aw_post {rd : Rd} {P : Program} {n : Nat} {pre : List Nat} {c : ACode} {Q Q' : AExit → St → Prop} {s : St} (h : AWb rd P n pre c Q s) (hq : ∀ e s,Q e s → ∃ s',Wk pre s s' ∧ Q' e s') : AWb rd P n pre c Q' s := fun code keep hc C a w hn hp hd hr =>
  wpIn_mono (h code keep hc C a w hn hp hd hr) fun e a w he => by
    cases e <;> first | exact he.elim | (obtain ⟨s,hs,hr⟩ := he; obtain ⟨s',hk,hs'⟩ := hq _ _ hs; exact ⟨s',hs',hk C a w hp hr⟩)
end Go.Proofs.YtbncpngjclabhaaGreat.Lift
namespace Go.Proofs.YtbncpngjclabhaaGreat.Lift
open Go Go.RowKit

def stopR (r : Loop) (j : Code) : Loop := { r with state := .done,pending := some j }
def exitC : AExit → Option Code
  | .norm => none
  | .ex id => some (.exit id)
  | .ret => some .ret
def stopD (g : Nat) (r' : Loop) : D → D
  | .yld g0 _ _ => cond (g0 == g) (.yld g r' []) .bot
  | d => cond (noY 9 d) d .bot
def stopE (g : Nat) (r' : Loop) : Env → Env
  | [] => []
  | (t,d) :: e => (t,stopD g r' d) :: stopE g r' e
theorem get_stopE (g : Nat) (r' : Loop) : ∀ (e : Env) (t : Nat),eget (stopE g r' e) t = stopD g r' (eget e t)
  | [],_ => rfl
  | (k,d) :: e,t => by
    show eget ((k,stopD g r' d) :: stopE g r' e) t = stopD g r' (eget ((k,d) :: e) t)
    rw [get_cons,get_cons]
    split
    · rfl
    · exact get_stopE g r' e t
def aftE (e : AExit) (g : Nat) (r : Loop) (env' : Env) : Env := match exitC e with
  | none => env'
  | some j => stopE g (stopR r j) env'
theorem RelS.stop {C : Ctx} {β : Bet} {Z : Blk} {env : Env} {hp : Hp} {nx : Nat} {a : Act} {w w2 : World} {g l : Nat} {r r' : Loop} (h : RelS C β Z (⟨env,hp,nx⟩ : St).F a w) (hg : β g = some l) (hz : ¬ Z l) (hl : w.heap[l]? = some (.loop r)) (hlo : C.w0.heap.size ≤ l) (hy : hpY hp = true)
    (hsz : w2.heap.size = w.heap.size) (hne : ∀ b,b ≠ l → w2.heap[b]? = w.heap[b]?) (hl2 : w2.heap[l]? = some (.loop r')) (hfr : Fr (fun b => b = l) w w2) : RelS C β Z (⟨stopE g r' env,hp,nx⟩ : St).F a w2 := by
  have hlt : l < w.heap.size := (Array.getElem?_eq_some_iff.1 hl).1
  refine ⟨h.size,⟨h.defers.1,fun d hd => ?_⟩,fun t => ?_,fun g' c' hc' => ?_,h.inj,?_,h.z0,h.old,h.orig,h.ext,fun b hb => by rw [hsz]; exact h.zlt b hb⟩
  · obtain ⟨hcn,B,e1,e2,e3,e4,e5⟩ := h.defers.2 d hd
    refine ⟨hcn,B,e1,e2,e3,by omega,?_⟩
    have : B ≠ l := by rintro rfl; rw [hl] at e5; cases e5
    exact (hne B this).trans e5
  · show Rep w2 β Z _ (eget (stopE g r' env) t)
    rw [get_stopE]
    have h1 : Rep w β Z (a.tmps.getD t undef) (eget env t) := h.env t
    generalize a.tmps.getD t undef = v at h1
    generalize eget env t = d at h1
    have key : ∀ {d : D},Rep w β Z v d → Rep w2 β Z v (cond (noY 9 d) d .bot) := fun {d} h1 => by
      cases hn : noY 9 d with
      | true => exact h1.swap hl hsz hne (.inr ⟨9,hn⟩)
      | false => exact .bot _
    cases d with
    | yld g0 r0 k0 =>
      show Rep w2 β Z v (cond (g0 == g) (.yld g r' []) .bot)
      cases hgg : (g0 == g) with
      | false => exact .bot _
      | true =>
        have hgg' : g0 = g := by simpa using hgg
        subst hgg'
        cases h1 with
        | yld _ l' _ _ q1 q2 q3 q4 q5 q6 =>
          rw [hg] at q1
          cases q1
          exact .yld g0 l r' [] hg (by omega) hz hl2 (fun i hi => by simp at hi) (fun i hi => by simp at hi)
    | _ => exact key h1
  · exact (h.objs g' c' hc').imp (fun h => h) fun ⟨B,cs,e,hO⟩ => ⟨B,cs,e,hO.swap hl (by simp) (by simp) hne fun _ d hd hv => hv.swap hl hsz hne (.inr ⟨9,hpY_get hy hc' d hd⟩)⟩
  · exact h.fr.trans hfr fun b hb hx => by omega

def RangeQS (Q : AExit → St → Prop) (env' : Env) (g : Nat) : AExit → St → Prop := fun e s2 => (e = .norm ∨ e = .ret) ∧ hpY s2.hp = true ∧ ∃ t r' k' e',eget s2.env t = .yld g r' k' ∧ r'.state ≠ .busy ∧ r'.pending = exitC e' ∧ Q e' ⟨env',s2.hp,s2.nx⟩
theorem In.wide {S T : Nat → Prop} (hST : ∀ g,S g → T g) : ∀ {d : D},In S d → In T d := fun {d} h => by
  induction h with
  | bot => exact .bot
  | val v => exact .val v
  | agg l _ ih => exact .agg l ih
  | tup l _ ih => exact .tup l ih
  | list l => exact .list l
  | at_ l => exact .at_ l
  | own g off len sz h => exact .own g off len sz (hST g h)
  | cap0 => exact .cap0
  | ptr g off h => exact .ptr g off (hST g h)
  | vec g len sz h => exact .vec g len sz (hST g h)
  | fn f k l _ _ ih1 ih2 => exact .fn f k l ih1 ih2
  | yld g r k h _ ih => exact .yld g r k (hST g h) ih
  | yref g h => exact .yref g (hST g h)
  | mp g h => exact .mp g (hST g h)
theorem EK.more {env : Env} {pin : List Nat} (x : Nat) : ∀ {e : Env},EK env pin e → EK env (x :: pin) e
  | [],_ => trivial
  | (_,_) :: _,h => ⟨h.1.imp id fun q => ⟨q.1,q.2.wide fun _ hg => List.mem_cons_of_mem _ hg⟩,EK.more x h.2⟩
end Go.Proofs.YtbncpngjclabhaaGreat.Lift
namespace Go.Proofs.YtbncpngjclabhaaGreat.Lift
open Go Go.RowKit

theorem RelS.back2 {C C2 : Ctx} {β1 β2 : Bet} {Z1 Z2 : Blk} {s1 : St} {s2 : St} {a1 a2 : Act} {w1 w3 : World} {env' : Env} {pin : List Nat} (h1 : RelS C β1 Z1 s1.F a1 w1) (h2 : RelS C2 β2 Z2 s2.F a2 w3)
    (hBl : ∀ b,C2.preB b → liveBlk s1.hp β1 b) (hZl : C2.Zl = fun b => b < C.w0.heap.size ∧ C.Zl b) (hZ0 : C2.Z0 = Z1) (hβ : ∀ g ∈ pin,C2.β0 g = β1 g) (hpin : C2.pre = pin) (hw0 : C2.w0 = w1)
    (hsub : ∀ g ∈ C.pre,g ∈ pin) (hE : EK s1.env pin env') (hdf : a1.defers.Nodup ∧ ∀ d ∈ a1.defers,Mk C.lo w3 Z2 d) : RelS C β2 Z2 ⟨eget env',hget s2.hp⟩ a1 w3 := by
  have hfr : Fr (liveBlk s1.hp β1) w1 w3 := hw0 ▸ h2.fr.mono (fun b _ hb => hBl b hb)
  have hZ21 : ∀ b,b < w1.heap.size → Z2 b → Z1 b := fun b hb hz => by
    have := h2.old b (by rw [hw0]; exact hb) hz
    rwa [hZ0] at this
  have hX : ∀ b,b < w1.heap.size → liveBlk s1.hp β1 b → Z1 b := by
    rintro b _ ⟨g,c,hc,hB⟩
    obtain ⟨cs,e,hO⟩ := (h1.objs g c hc).real hB
    exact hO.ours
  have hext : ∀ g ∈ pin, ∀ B, β1 g = some B → β2 g = some B := fun g hg B hB => h2.ext g (hpin ▸ hg) B ((hβ g hg).trans hB)
  let βp : Bet := fun g => if g ∈ pin then β1 g else none
  have he : Ext βp β2 := fun g B hg => by
    by_cases hp : g ∈ pin
    · exact hext g hp B (by rw [← hg]; exact (if_pos hp).symm)
    · rw [show βp g = none from if_neg hp] at hg; cases hg
  have horig : ∀ b,liveBlk s1.hp β1 b → C.w0.heap.size ≤ b ∨ C.preB b := by
    rintro b ⟨g,c,hc,hB⟩
    exact h1.orig g c b hc hB
  refine ⟨h1.size,hdf,fun t => ?_,h2.objs,h2.inj,?_,fun b hb hz => ?_,fun b hb hz => ?_,fun g c B hc hB => ?_,fun g hg B hB => hext g (hsub g hg) B (h1.ext g hg B hB),h2.zlt⟩
  · rcases hE.get t with h | ⟨h,hin⟩
    · show Rep w3 β2 Z2 _ (eget env' t)
      rw [h]; exact .bot _
    · show Rep w3 β2 Z2 _ (eget env' t)
      have h3 := h1.env t
      have h4 : Rep w1 βp Z1 (a1.tmps.getD t undef) (eget env' t) := by
        rw [h] at hin ⊢
        exact h3.rename hin fun g hg => if_pos hg
      exact h4.mono hfr hX he hZ21
  · exact h1.fr.trans hfr fun b hb hl => by
      rcases horig b hl with h | h
      · omega
      · exact h
  · refine h2.z0 b (by rw [hw0]; exact Nat.lt_of_lt_of_le hb h1.fr.size) ?_
    rw [hZl]; exact ⟨hb,hz⟩
  · exact h1.old b hb (hZ21 b (Nat.lt_of_lt_of_le hb h1.fr.size) hz)
  · rcases h2.orig g c B hc ‹_› with h | h
    · exact .inl (Nat.le_trans h1.fr.size (by rw [← hw0]; exact h))
    · exact horig B (hBl B h)
end Go.Proofs.YtbncpngjclabhaaGreat.Lift
namespace Go.Proofs.YtbncpngjclabhaaGreat.Lift
open Go Go.RowKit

structure LoopIsA (P : Program) (n : Nat) (ps : List Nat) (ca cb : ACode) (r : Loop) : Prop where
  ready : r.state = .ready
  pend : r.pending = none
  size : r.tmps.size = n
  pars : r.params.toList = ps
  plt : ∀ p ∈ ps,p < n
  asg : ∃ keep,compCode P n keep r.assign = some ca
  body : ∃ keep,compCode P n keep r.body = some cb
theorem body_envA {P : Program} {n : Nat} {ps : List Nat} {ca cb : ACode} {r : Loop} {args k : List D} {w : World} {β : Bet} {Z : Blk} {vs : Array Value} (hr : LoopIsA P n ps ca cb r) (hs : vs.size = args.length)
    (hrep : ∀ i (hi : i < args.length),Rep w β Z (vs.getD i undef) args[i]) (hrk : ∀ i (h : i < k.length),Rep w β Z (r.tmps.getD i undef) k[i]) :
    EnvR w β Z ((r.params.zip vs).foldl (fun t (p,v) => t.setIfInBounds p v) r.tmps) (parE (envOf 0 k) ps args) ∧ ((r.params.zip vs).foldl (fun t (p,v) => t.setIfInBounds p v) r.tmps).size = n := by
  have hk0 : EnvR w β Z r.tmps (envOf 0 k) := fun t => by
    rw [get_envOf]
    split
    · rename_i ht
      simp only [Nat.sub_zero] at ht ⊢
      exact hrk t ht.2
    · exact .bot _
  have hp0 := EnvR.pars ps vs.toList args r.tmps _ hk0 (fun p hp => by rw [hr.size]; exact hr.plt p hp) (by simpa using hs) (fun i hi hi' => by
    have hi2 : i < vs.size := by simpa using hi
    have h1 := hrep i hi'
    rw [show vs.getD i undef = vs.toList[i] by simp [hi2]] at h1
    exact h1)
  have hfold : (r.params.zip vs).foldl (fun t (p,v) => t.setIfInBounds p v) r.tmps = (ps.zip vs.toList).foldl (fun t (p,v) => t.setIfInBounds p v) r.tmps := by
    rw [← Array.foldl_toList,Array.toList_zip,hr.pars]
  rw [hfold]
  exact ⟨hp0.1,hp0.2.trans hr.size⟩
def AsgQ (P : Program) (nb : Nat) (pin : List Nat) (cb : ACode) (QB : AExit → St → Prop) : AExit → St → Prop := fun e s => e = .norm ∧ hpY s.hp = true ∧ (s.env.all fun x => noY 9 x.2) = true ∧ AWb true P nb pin cb QB s
theorem asgQ {P : Program} {nb : Nat} {pin : List Nat} {cb : ACode} {QB : AExit → St → Prop} {s : St} (h1 : hpY s.hp = true) (h2 : (s.env.all fun x => noY 9 x.2) = true) (h3 : AWb true P nb pin cb QB s) : AsgQ P nb pin cb QB .norm s := ⟨rfl,h1,h2,h3⟩
theorem noY_get : ∀ {env : Env},(env.all fun x => noY 9 x.2) = true → ∀ t,noY 9 (eget env t) = true
  | [],_,_ => rfl
  | (k,d) :: e,h,t => by
    rw [get_cons]
    simp only [List.all_cons,Bool.and_eq_true] at h
    split
    · exact h.1
    · exact noY_get h.2 t
theorem round_coreA {P : Program} {C : Ctx} {β1 : Bet} {Z1 : Blk} {s1 : St} {a1 : Act} {w1 : World} {nb nx1 : Nat} {ps : List Nat} {ca cb : ACode} {r : Loop} {k : List D} {g l : Nat} {pin : List Nat} {env' : Env} {vs : Array Value} {args' : List D} {rd : Rd}
    {QB : AExit → St → Prop} {R : Ending → World → Prop} (hR1 : RelS C β1 Z1 s1.F a1 w1) (hβ1 : ∀ g,nx1 ≤ g → β1 g = none) (hok : Okr rd C)
    (y1 : β1 g = some l) (y2 : l < w1.heap.size) (y3 : ¬ Z1 l) (y4 : w1.heap[l]? = some (.loop r)) (y5 : ∀ i (hi : i < k.length),Rep w1 β1 Z1 (r.tmps.getD i undef) k[i]) 
    (hLoop : LoopIsA P nb ps ca cb r) (hvs : vs.size = args'.length) (hrep : ∀ i (hi : i < args'.length),Rep w1 β1 Z1 (vs.getD i undef) args'[i]) (hyh : hpY s1.hp = true)
    (hsub : ∀ g ∈ C.pre,g ∈ pin) (hE : EK s1.env pin env') (hbody : AWb true P nb pin ca (AsgQ P nb pin cb QB) ⟨parE (envOf 0 k) ps args',s1.hp,nx1⟩)
    (hQ : ∀ e s2,QB e s2 → hpY s2.hp = true ∧ (e = .norm ∨ g ∈ rd.lw))
    (hR : ∀ e s2 β2 Z2 w4,QB e s2 → RelS C β2 Z2 (⟨aftE e g r env',s2.hp,s2.nx⟩ : St).F a1 w4 → (∀ g,s2.nx ≤ g → β2 g = none) → R (.returned (.bool (exitC e).isNone)) w4) :
    RoundIn Fence.wide 0 P l r.fn ((r.params.zip vs).foldl (fun t (p,v) => t.setIfInBounds p v) r.tmps) r.assign r.body w1 R := by
  let r2 : Loop := { r with state := .busy }
  obtain ⟨hT1,hT2⟩ := body_envA (vs := vs) hLoop hvs hrep y5
  refine roundIn_of_wpIn (F := Fence.wide) (n := 0) trivial ?_
  have hready := hLoop.ready
  have hnl1 : ¬ liveBlk s1.hp β1 l := by
    rintro ⟨g',c',hc',hB'⟩
    obtain ⟨cs,e,hO⟩ := (hR1.objs g' c' hc').real hB'
    exact hO.blk.noLoop y4
  obtain ⟨keepa,hca⟩ := hLoop.asg
  obtain ⟨keepb,hcb⟩ := hLoop.body
  let C2 : Ctx := ⟨some l,w1,pin,liveBlk s1.hp β1,fun b => b < C.w0.heap.size ∧ C.Zl b,Z1, β1,nb,fun b hb hz => by
    obtain ⟨g',c',hc',hB'⟩ := hb
    rcases hR1.orig g' c' b hc' hB' with h3 | h3
    · have := hz.1; omega
    · obtain ⟨g0,hg0',hb0⟩ := C.own b h3 hz.2
      exact ⟨g0,hsub g0 hg0',hR1.ext g0 hg0' b hb0⟩,fun l' h' => by
    cases h'
    exact ⟨r,y4,hnl1⟩,fun g => gl_new (hR1.gl g) (live_ours hR1.objs)⟩
  have hR2 : Rel C2 ⟨parE (envOf 0 k) ps args',s1.hp,nx1⟩ { tmps := (r.params.zip vs).foldl (fun t (p,v) => t.setIfInBounds p v) r.tmps,defers := [] } w1 :=
    ⟨β1,Z1,⟨hT2,⟨List.nodup_nil,fun d hd => by cases hd⟩,hT1,hR1.objs,hR1.inj,Fr.refl _ _,fun b _ hz => hR1.z0 b hz.1 hz.2,fun b _ hz => hz,fun g' c' B hc' hB' => .inr ⟨g',c',hc',hB'⟩,fun g' _ B hB' => hB',hR1.zlt⟩,hβ1⟩
  refine wpIn_mono (hbody r.assign keepa hca C2 _ w1 rfl rfl (Okr.nil rfl) hR2) fun e a' wA he => ?_
  cases e with
  | exit id => obtain ⟨s',⟨h1,_⟩,_⟩ := he; cases h1
  | ret => obtain ⟨s',⟨h1,_⟩,_⟩ := he; cases h1
  | goto t => exact he.elim
  | panic c => exact he.elim
  | outgrown => exact he.elim
  | normal =>
  obtain ⟨sA,⟨_,hyA,hyE,hbody2⟩, βA,ZA,hSA,hβA⟩ := he
  have hlA : wA.heap[l]? = some (.loop r) := (hSA.fr.same l y2 hnl1).trans y4
  have hlA2 : l < wA.heap.size := (Array.getElem?_eq_some_iff.1 hlA).1
  have hzA : ¬ ZA l := fun hz => y3 (hSA.old l y2 hz)
  have hnlA : ¬ liveBlk sA.hp βA l := by
    rintro ⟨g',c',hc',hB'⟩
    obtain ⟨cs,e,hO⟩ := (hSA.objs g' c' hc').real hB'
    exact hO.blk.noLoop hlA
  let w2 : World := wA.putObj l (.loop r2)
  have hb2 : w2.heap[l]? = some (.loop r2) := World.putObj_heap_same hlA2
  have hne : ∀ b,b ≠ l → w2.heap[b]? = wA.heap[b]? := fun b hb => World.putObj_heap_other hb
  have hsz2 : w2.heap.size = wA.heap.size := by simp [w2]
  have hbr := run_beginRound (P := P) hlA hready
  refine ⟨w2,hbr,?_⟩
  let C3 : Ctx := ⟨some l,w2,pin,liveBlk sA.hp βA,fun b => b < C2.w0.heap.size ∧ C2.Zl b,ZA, βA,nb,fun b hb hz => by
    obtain ⟨g',c',hc',hB'⟩ := hb
    rcases hSA.orig g' c' b hc' hB' with h3 | h3
    · have := hz.1; omega
    · obtain ⟨g0,hg0',hb0⟩ := C2.own b h3 hz.2
      exact ⟨g0,hg0',hSA.ext g0 hg0' b hb0⟩,fun l' h' => by
    cases h'
    exact ⟨r2,hb2,hnlA⟩,fun g => gl_new ((hSA.gl g).swap hlA hsz2 hne (.inl rfl)) (live_ours hSA.objs)⟩
  have hR3 : Rel C3 sA a' w2 := by
    refine ⟨βA,ZA,⟨hSA.size,⟨hSA.defers.1,fun d hd => ?_⟩,fun t => (hSA.env t).swap hlA hsz2 hne (.inr ⟨9,noY_get hyE t⟩),fun g' c' hc' => ?_,hSA.inj,Fr.refl _ _,fun b _ hz => hSA.z0 b hz.1 hz.2,fun b _ hz => hz,fun g' c' B hc' hB' => .inr ⟨g',c',hc',hB'⟩,fun g' _ B hB' => hB',fun b hb => by rw [hsz2]; exact hSA.zlt b hb⟩,hβA⟩
    · exact absurd (hSA.defers.2 d hd).1 (by simp [C2])
    · exact (hSA.objs g' c' hc').imp (fun h => h) fun ⟨B,cs,e,hO⟩ => ⟨B,cs,e,hO.swap hlA (by simp) (by simp) hne fun _ d hd hv => hv.swap hlA hsz2 hne (.inr ⟨9,hpY_get hyA hc' d hd⟩)⟩
  refine wpIn_mono (hbody2 r.body keepb hcb C3 a' w2 rfl rfl (Okr.nil rfl) hR3) fun e a3 w3 he => ?_
  -- behind the body,however it was left
  have fin : ∀ (ex : AExit) (s2 : St),QB ex s2 → Rel C3 s2 a3 w3 → ∃ w4,(Instr.endRound l (exitC ex)).run P w3 = .ok (.bool (exitC ex).isNone) w4 ∧ R (.returned (.bool (exitC ex).isNone)) w4 := by
    rintro ex s2 hq ⟨β2,Z2,hS2,hβ2⟩
    obtain ⟨hy2,hst⟩ := hQ ex s2 hq
    have hb3 : w3.heap[l]? = some (.loop r2) := (hS2.fr.same l (by show l < w2.heap.size; omega) hnlA).trans hb2
    have hl3 : l < w3.heap.size := (Array.getElem?_eq_some_iff.1 hb3).1
    have hend := run_endRound (P := P) (exitC ex) hb3
    have hne3 : ∀ b,b ≠ l → (w3.putObj l (.loop r)).heap[b]? = w3.heap[b]? := fun b hb => World.putObj_heap_other hb
    have hw0 : w2.heap.size ≤ w3.heap.size := hS2.fr.size
    have hfrA : Fr (liveBlk sA.hp βA) wA (w3.putObj l (.loop r)) := by
      refine ⟨hS2.fr.os,hS2.fr.tape,hS2.fr.output,by simp only [World.putObj_size]; omega,fun b hb hx => ?_,fun b hb => ?_⟩
      · by_cases hbl : b = l
        · subst hbl; exact (World.putObj_heap_same hl3).trans hlA.symm
        · exact (hne3 b hbl).trans ((hS2.fr.same b (by show b < w2.heap.size; omega) hx).trans (hne b hbl))
      · by_cases hbl : b = l
        · subst hbl
          simp only [kind?,World.putObj_heap_same hl3,hlA]
        · have h1 : kind? w3 b = kind? w2 b := hS2.fr.knd b (by show b < w2.heap.size; omega)
          simp only [kind?,hne3 b hbl,hne b hbl] at h1 ⊢
          exact h1
    have hZA2 : ∀ b,b < wA.heap.size → Z2 b → ZA b := fun b hb hz => hS2.old b (by show b < w2.heap.size; omega) hz
    have hbackA := RelS.back (C := C2) (C2 := C3) (s1 := sA) (s2 := s2) (a1' := a') (w4 := w3.putObj l (.loop r)) (env' := []) (pin := pin) hSA hS2 (fun b hb => hb) rfl rfl (fun _ _ => rfl) rfl (by show wA.heap.size ≤ w2.heap.size; omega) (fun g' hg' => hg') hfrA
      (fun hn hv => hv.swap hb3 (by simp) hne3 (.inr ⟨9,hn⟩)) (fun hc' hn hH => hH.imp (fun h => h) fun ⟨B,cs,e,hO⟩ => ⟨B,cs,e,hO.swap hb3 (by simp) (by simp) hne3 fun _ d hd hv => hv.swap hb3 (by simp) hne3 (.inr ⟨9,hn d hd⟩)⟩) hy2 (by simp) trivial rfl
      ⟨hSA.defers.1,fun d hd => (hSA.defers.2 d hd).mono hfrA (fun b hb hx => by
        obtain ⟨g',c',hc',hB'⟩ := hx
        obtain ⟨cs,e,hO⟩ := (hSA.objs g' c' hc').real hB'
        exact hO.ours) hZA2⟩
    have hZ21 : ∀ b,b < w1.heap.size → Z2 b → Z1 b := fun b hb hz => hSA.old b hb (hZA2 b (Nat.lt_of_lt_of_le hb hSA.fr.size) hz)
    have hfr : Fr (liveBlk s1.hp β1) w1 (w3.putObj l (.loop r)) := hbackA.fr
    have hback : RelS C β2 Z2 (⟨env',s2.hp,s2.nx⟩ : St).F a1 (w3.putObj l (.loop r)) := by
      refine RelS.back2 (C := C) (C2 := C2) (s1 := s1) (s2 := ⟨[],s2.hp,s2.nx⟩) (a2 := a') (env' := env') (pin := pin) hR1 hbackA (fun b hb => hb) rfl rfl (fun _ _ => rfl) rfl rfl hsub hE ⟨hR1.defers.1,fun d hd => (hR1.defers.2 d hd).mono hfr (fun b hb hx => ?_) hZ21⟩
      obtain ⟨g',c',hc',hB'⟩ := hx
      obtain ⟨cs,e,hO⟩ := (hR1.objs g' c' hc').real hB'
      exact hO.ours
    cases ex with
    | norm =>
      have hrr : ({ r2 with state := if (none : Option Code).isNone then .ready else .done,pending := none } : Loop) = r := by
        have h1 := hLoop.ready; have h2 := hLoop.pend
        simp only [r2,Option.isNone_none,if_true]
        cases r; simp_all
      rw [show exitC .norm = none from rfl] at hend ⊢
      rw [hrr] at hend
      exact ⟨_,hend,hR .norm s2 β2 Z2 _ hq hback hβ2⟩
    | _ =>
      all_goals
        have hgl := (hst.resolve_left (by simp))
        obtain ⟨hgp,b0,hb0,hb1⟩ := hok.2 g hgl
        have hbl : b0 = l := by
          have := hR1.ext g hgp b0 hb0
          rw [y1] at this; cases this; rfl
        subst hbl
        have hg2 : β2 g = some b0 := hS2.ext g (hsub g hgp) b0 (hSA.ext g (hsub g hgp) b0 y1)
        have hz2 : ¬ Z2 b0 := fun hz => y3 (hZ21 b0 y2 hz)
        refine ⟨_,hend,hR _ s2 β2 Z2 _ hq ?_ hβ2⟩
        refine RelS.stop hback hg2 hz2 (World.putObj_heap_same hl3) hb1 hy2 (by simp) (fun b hb => (World.putObj_heap_other hb).trans (hne3 b hb).symm) (World.putObj_heap_same hl3) ?_
        refine ⟨rfl,rfl,rfl,by simp,fun b _ hb => (World.putObj_heap_other hb).trans (hne3 b hb).symm,fun b _ => ?_⟩
        by_cases hbl : b = b0
        · subst hbl; simp only [kind?,World.putObj_heap_same hl3]
        · simp only [kind?,hne3 b hbl,World.putObj_heap_other hbl]
  cases e with
  | normal =>
    obtain ⟨s2,hq,hr⟩ := he
    obtain ⟨w4,h1,h2⟩ := fin .norm s2 hq hr
    exact ⟨_,w4,h1,h2⟩
  | exit id =>
    obtain ⟨s2,hq,hr⟩ := he
    obtain ⟨w4,h1,h2⟩ := fin (.ex id) s2 hq hr
    exact ⟨_,w4,h1,h2⟩
  | ret =>
    obtain ⟨s2,hq,hr⟩ := he
    obtain ⟨w4,h1,h2⟩ := fin .ret s2 hq hr
    exact ⟨_,w4,h1,h2⟩
  | _ => exact he.elim

theorem rangeQSA {P : Program} {n : Nat} {ps : List Nat} {ca cb : ACode} {Q : AExit → St → Prop} {env' : Env} {e : AExit} {s2 : St} {g : Nat} {r : Loop} {k : List D} (t : Nat) (hr : LoopIsA P n ps ca cb r) (ht : eget s2.env t = .yld g r k) (he : e = .norm ∨ e = .ret) (hy : hpY s2.hp = true) (hK : Q .norm ⟨env',s2.hp,s2.nx⟩) : RangeQS Q env' g e s2 :=
  ⟨he,hy,t,r,k,.norm,ht,by rw [hr.ready]; simp,hr.pend,hK⟩
theorem aw_rangeSA {rd : Rd} {P : Program} {n m : Nat} {pre : List Nat} {Q : AExit → St → Prop} {s : St} {g : Operand} {ps : List Nat} {ca cb c : ACode} {f : FuncId} {first caps : List D} (pin : List Nat) (env' : Env) (k : List D) (hcode : IsCode P f m c [])
    (hg : s.F.ev g = .fn f first caps) (hm : first.length + 1 + caps.length ≤ m) (hkE : KE s.env 0 k) (hyk : kOK k = true) (hnx : hget s.hp s.nx = none) (hsub : ∀ g ∈ pre,g ∈ pin) (hE : EK s.env pin env')
    (hit : ∀ r,LoopIsA P n ps ca cb r → AWb ⟨false,[s.nx]⟩ P m (s.nx :: pin) c (RangeQS Q env' s.nx) ⟨envOf 0 (first ++ .yld s.nx r k :: caps),s.hp,s.nx + 8⟩) :
    AWb rd P n pre (.rangeFuncA g ps ca cb) Q s := fun code keep hc C a w hn hp hd hr => by
  cases code with
  | rangeFunc g' params assign body =>
    simp only [compCode] at hc
    split at hc
    · split at hc <;> cases hc
    · rename_i hbody
      split at hc
      rotate_left
      · cases hc
      rename_i hasg
      split at hc
      · rename_i hall
        cases hc
        obtain ⟨fnI,codeI,keepI,q1,q2,q3,rfl,q4,q5⟩ := hcode
        obtain ⟨β,Z,hR,hβ⟩ := hr
        have hev := hR.ev g
        rw [hg] at hev
        refine wpIn_rangeFunc ?_
        intro fn _
        obtain ⟨W0,mark,dfr,hen,hs0,hf0,hmk,hml⟩ : ∃ (W0 : World) (mark : List Deferred) (dfr : Nat),(Instr.enterLoop fn a.tmps params assign body (Fw C.r).round).run P w = .ok (W0.heap.size,mark) (W0.alloc (.loop { state := .ready,pending := none,fn,tmps := a.tmps,params,assign,body,defers := dfr })) ∧
            w.heap.size ≤ W0.heap.size ∧ (∀ X,Fr X w W0) ∧ (∀ dd ∈ mark,C.r = none ∧ ∃ B,dd = { target := .collected B,args := #[] } ∧ w.heap.size ≤ B ∧ B < W0.heap.size ∧ W0.heap[B]? = some (.deferred (some []))) ∧ mark.Nodup := by
          show ∃ (W0 : World) (mark : List Deferred) (dfr : Nat),(Instr.enterLoop fn a.tmps params assign body C.r).run P w = _ ∧ _
          have hrl := C.rl
          cases hcr : C.r with
          | none =>
            refine ⟨w.alloc (.deferred (some [])),[{ target := .collected w.heap.size,args := #[] }],w.heap.size,?_,by simp [World.size_alloc],fun X => Fr.push X w _,?_,by simp⟩
            · rw [World.size_alloc]; exact run_enterLoop_outer _ _ _ _ _
            · intro dd hdd
              rw [List.mem_singleton.1 hdd]
              exact ⟨rfl,_,rfl,Nat.le_refl _,by simp [World.size_alloc],World.alloc_heap_new w _⟩
          | some l' =>
            obtain ⟨rr,h1,h2⟩ := hrl l' hcr
            have h3 : w.heap[l']? = some (.loop rr) := (hR.fr.same l' (Array.getElem?_eq_some_iff.1 h1).1 h2).trans h1
            exact ⟨w,[],rr.defers,run_enterLoop_inner h3 _ _ _ _ _,Nat.le_refl _,fun X => Fr.refl X w,fun dd hdd => (by cases hdd),List.nodup_nil⟩
        obtain ⟨rec,hrec⟩ : ∃ rec : Loop,rec = { state := .ready,pending := none,fn,tmps := a.tmps,params,assign,body,defers := dfr } := ⟨_,rfl⟩
        rw [← hrec] at hen
        obtain ⟨W1,hW1⟩ : ∃ W1,W0.alloc (.loop rec) = W1 := ⟨_,rfl⟩
        rw [hW1] at hen
        have hs1 : W1.heap.size = W0.heap.size + 1 := by rw [← hW1]; simp [World.size_alloc]
        have hL1 : W1.heap[W0.heap.size]? = some (.loop rec) := by rw [← hW1]; exact World.alloc_heap_new W0 (.loop rec)
        have hf01 : ∀ X,Fr X W0 W1 := fun X => by rw [← hW1]; exact Fr.push X _ _
        have hf1 : ∀ X,Fr X w W1 := fun X => (hf0 X).trans (hf01 X) (fun _ _ h => h)
        have hLoop : LoopIsA P n params.toList ca cb rec := by
          subst hrec
          exact ⟨rfl,rfl,hR.size.trans hn,rfl,fun p hp => of_decide_eq_true (List.all_eq_true.1 hall p hp),⟨keep,hasg⟩,keep,hbody⟩
        obtain ⟨us,vs,heq,hus,hus2,hvs,hvs2⟩ : ∃ us vs,a.eval g = .func (.func f) us vs ∧ us.size = first.length ∧ (∀ i (h : i < first.length),Rep w β Z (us.getD i undef) first[i]) ∧ vs.size = caps.length ∧ (∀ i (h : i < caps.length),Rep w β Z (vs.getD i undef) caps[i]) := by
          generalize a.eval g = vf at hev
          cases hev with
          | fn _ us vs _ _ h1 h2 h3 h4 => exact ⟨us,vs,rfl,h1,h2,h3,h4⟩
        obtain ⟨dd,hres,hinv⟩ := run_rangeCall (P := P) (W := W1) (l := W0.heap.size) heq ⟨fnI,q1,q3,by rw [q2]; rfl⟩
        refine ⟨W0.heap.size,mark,W1,dd,W1,f,us ++ #[.func (.yield W0.heap.size) #[] #[]] ++ vs,W1,hen,hres,fun _ _ => trivial,hinv,fun hh => (by cases hh),?_⟩
        -- the call
        have hbn : β s.nx = none := hβ _ (Nat.le_refl _)
        have hN := hR.name (B := W0.heap.size) (id := s.nx) hnx hbn
        obtain ⟨β1,hβ1⟩ : ∃ β1,setB β s.nx (some W0.heap.size) = β1 := ⟨_,rfl⟩
        rw [hβ1] at hN
        have hb1 : β1 s.nx = some W0.heap.size := by rw [← hβ1]; exact setB_id
        have hb1' : ∀ g,g ≠ s.nx → β1 g = β g := fun g hg => by rw [← hβ1]; simp [setB,hg]
        have hext : Ext β β1 := by rw [← hβ1]; exact setB_ext hbn
        have up1 : ∀ {v d},Rep w β Z v d → Rep W1 β1 Z v d := fun hv => hv.mono (hf1 (fun _ => False)) (fun _ _ h => h.elim) hext (fun _ _ h => h)
        have hlb : ∀ b,liveBlk s.hp β1 b → b < w.heap.size := by
          rintro b ⟨g,c,hc,hB⟩
          obtain ⟨cs,e,hO⟩ := (hN.objs g c hc).real hB
          exact hO.lt
        have hyld : Rep W1 β1 Z (.func (.yield W0.heap.size) #[] #[]) (.yld s.nx rec k) := by
          refine .yld s.nx _ rec k hb1 (by omega) (fun hz => by have := hR.zlt _ hz; omega) hL1 (fun i hi => ?_) (fun i hi => ?_)
          · have ht : rec.tmps = a.tmps := by rw [hrec]
            rw [ht]
            rcases hkE.get i hi with h1 | h1
            · rw [h1]; exact .bot _
            · rw [h1,Nat.zero_add]; exact up1 (hR.env i)
          · have h2 := List.all_eq_true.1 hyk _ (List.getElem_mem hi)
            have ht : rec.tmps = a.tmps := by rw [hrec]
            rw [ht]
            rcases hkE.get i hi with h1 | h1
            · rw [h1]; exact .inl rfl
            · rw [Nat.zero_add] at h1
              have h3 : Rep w β Z (a.tmps.getD i undef) k[i] := by rw [h1]; exact hR.env i
              generalize k[i] = x at h2 h3
              generalize a.tmps.getD i undef = v at h3
              cases x with
              | yld g1 r1 k1 =>
                refine .inr ?_
                cases h3 with
                | yld _ l' _ _ e1 e2 => intro he; injection he with he; injection he with he; omega
              | _ => exact .inl h2
        have horig : ∀ b,liveBlk s.hp β1 b → C.w0.heap.size ≤ b ∨ C.preB b := by
          rintro b ⟨g,c,hc,hB⟩
          exact hN.orig g c b hc hB
        let C2 : Ctx := ⟨none,W0,s.nx :: pin,liveBlk s.hp β1,fun b => b < C.w0.heap.size ∧ C.Zl b,Z, β1,fnI.ntmps,fun b hb hz => by
          rcases horig b hb with h3 | h3
          · have := hz.1; omega
          · obtain ⟨g0,hg0',hb0⟩ := C.own b h3 hz.2
            exact ⟨g0,List.mem_cons_of_mem _ (hsub g0 (hp ▸ hg0')),hN.ext g0 hg0' b hb0⟩,fun l h => (by cases h),fun g => gl_new ((hR.gl g).mono (hf0 (fun _ => False)) (fun _ _ h => h.elim) (Ext.refl _) (fun _ _ h => h)) (live_ours hN.objs)⟩
        have hok2 : Okr ⟨false,[s.nx]⟩ C2 := ⟨rfl,fun g hg => by
          rw [List.mem_singleton.1 hg]
          exact ⟨List.mem_cons_self ..,_,hb1,Nat.le_refl _⟩⟩
        have hlen : (us ++ #[Value.func (.yield W0.heap.size) #[] #[]] ++ vs).size = first.length + 1 + caps.length := by simp [hus,hvs]
        have hR2 : Rel C2 ⟨envOf 0 (first ++ .yld s.nx rec k :: caps),s.hp,s.nx + 8⟩ { tmps := (us ++ #[Value.func (.yield W0.heap.size) #[] #[]] ++ vs) ++ Array.replicate (fnI.ntmps - (us ++ #[Value.func (.yield W0.heap.size) #[] #[]] ++ vs).size) undef,defers := [] } W1 := by
          refine ⟨β1,Z,⟨by rw [Array.size_append,Array.size_replicate,hlen]; show _ = fnI.ntmps; omega,⟨List.nodup_nil,fun d hd => by cases hd⟩,fun t => ?_,fun g c hc => (hN.objs g c hc).mono (hf1 (fun _ => False)) (fun _ _ h => h.elim) (fun _ _ h => h) (Ext.refl _) (fun h => h) (fun _ _ => Iff.rfl),hN.inj,hf01 _,fun b _ hz => hR.z0 b hz.1 hz.2,fun b _ hz => hz,fun g c B hc hB => .inr ⟨g,c,hc,hB⟩,fun g _ B hB => hB,fun b hb => by have := hR.zlt b hb; omega⟩,fun g hg => ?_⟩
          · show Rep W1 β1 Z _ (eget (envOf 0 _) t)
            rw [get_envOf]
            split
            · rename_i ht
              simp only [Nat.sub_zero] at ht ⊢
              have hlt : t < first.length + 1 + caps.length := by have := ht.2; simp at this; omega
              rw [getD_append_left _ _ _ (by rw [hlen]; exact hlt)]
              by_cases c1 : t < first.length
              · have e1 : (us ++ #[Value.func (.yield W0.heap.size) #[] #[]] ++ vs).getD t undef = us.getD t undef := by
                  rw [Array.append_assoc,getD_append_left _ _ _ (by omega)]
                have e2 : (first ++ .yld s.nx rec k :: caps)[t]'ht.2 = first[t] := List.getElem_append_left c1
                rw [e1,e2]
                exact up1 (hus2 t c1)
              · by_cases c2 : t = first.length
                · have e1 : (us ++ #[Value.func (.yield W0.heap.size) #[] #[]] ++ vs).getD t undef = .func (.yield W0.heap.size) #[] #[] := by
                    rw [getD_append_left _ _ _ (by simp; omega),getD_append_right _ _ _ (by omega),hus,c2]
                    simp
                  have e2 : (first ++ .yld s.nx rec k :: caps)[t]'ht.2 = .yld s.nx rec k := by
                    rw [List.getElem_append_right (by omega)]
                    simp [c2]
                  rw [e1,e2]
                  exact hyld
                · have hj : t - first.length - 1 < caps.length := by omega
                  have e1 : (us ++ #[Value.func (.yield W0.heap.size) #[] #[]] ++ vs).getD t undef = vs.getD (t - first.length - 1) undef := by
                    rw [getD_append_right _ _ _ (by simp; omega)]
                    simp [hus,Nat.sub_sub]
                  have e2 : (first ++ .yld s.nx rec k :: caps)[t]'ht.2 = caps[t - first.length - 1] := by
                    rw [List.getElem_append_right (by omega)]
                    rw [List.getElem_cons]
                    rw [dif_neg (by omega)]
                  rw [e1,e2]
                  exact up1 (hvs2 _ hj)
            · exact .bot _
          · simp only at hg
            rw [hb1' g (by omega)]
            exact hβ g (by omega)
        refine calls_fw C.r (0 - 1) ((callsIn_wide (n := 0)).1 (callsIn_of_wp_marks q1 q2 trivial ?_))
        refine wpIn_mono (hit rec hLoop codeI keepI q4 C2 _ W1 rfl rfl hok2 hR2) fun e a2 w3 he => ?_
        have fin : ∀ (e : AExit) (s2 : St),RangeQS Q env' s.nx e s2 → Rel C2 s2 a2 w3 → LeavesInM Fence.wide 0 P fnI a2.tmps (rangePost (Fw C.r) 0 P W0.heap.size (PostQ C Q) { a with defers := mark ++ a.defers }) a2.defers .returning w3 := by
          rintro e s2 ⟨_,hy2,ty,r',k',e',hty,hst,hpd,hK⟩ ⟨β2,Z2,hS2,hβ2⟩
          refine hS2.leaves a2.defers a2 w3 rfl fun a3 w4 ht _ hS3 => ?_
          obtain ⟨v,hv,_⟩ := res_sound (s := s2) hS3 q5 (d := .tup []) rfl
          rw [ht] at hv
          refine ⟨v,hv,?_⟩
          have hnb : ∀ b,w.heap.size ≤ b → ¬ liveBlk s.hp β1 b := fun b hb hl => by have := hlb b hl; omega
          have hg2 : β2 s.nx = some W0.heap.size := hS3.ext s.nx (List.mem_cons_self ..) _ hb1
          have hL3 : w4.heap[W0.heap.size]? = some (.loop r') := by
            have h1 : Rep w4 β2 Z2 (a3.tmps.getD ty undef) (eget s2.env ty) := hS3.env ty
            rw [hty] at h1
            generalize a3.tmps.getD ty undef = v1 at h1
            cases h1 with
            | yld _ l' _ _ p1 p2 p3 p4 p5 p6 =>
              rw [hg2] at p1
              cases p1
              exact p4
          have hs3 : W0.heap.size < w4.heap.size := (Array.getElem?_eq_some_iff.1 hL3).1
          have hend := run_endLoop (P := P) hL3 hst
          obtain ⟨w5,hw5⟩ : ∃ w5,w4.putObj W0.heap.size (.loop { r' with state := .exhausted }) = w5 := ⟨_,rfl⟩
          rw [hw5] at hend
          have hs5 : w5.heap.size = w4.heap.size := by rw [← hw5]; simp
          have hne5 : ∀ b,b ≠ W0.heap.size → w5.heap[b]? = w4.heap[b]? := fun b hb => by rw [← hw5]; exact World.putObj_heap_other hb
          have h45 : Fr (fun b => b = W0.heap.size) w4 w5 := by rw [← hw5]; exact putObj_fr hL3 (by simp) (by simp)
          have hfr : Fr (liveBlk s.hp β1) w w5 := by
            refine ((hf0 _).trans hS3.fr (fun _ _ h => h)).trans h45 fun i hi he => ?_
            subst he; omega
          have hZ21 : ∀ b,b < w.heap.size → Z2 b → Z b := fun b hb hz => hS3.old b (by show b < W0.heap.size; omega) hz
          have hRf : RelS C β2 Z2 (⟨env',s2.hp,s2.nx⟩ : St).F { a with defers := mark ++ a.defers } w5 := by
            refine RelS.back (C := C) (C2 := C2) (s1 := s) (s2 := s2) (a1' := { a with defers := mark ++ a.defers }) (w4 := w5) (env' := env') (pin := s.nx :: pin) hN hS3 (fun b hb => hb) rfl rfl (fun _ _ => rfl) rfl (by show w.heap.size ≤ W0.heap.size; omega) (fun g' hg' => List.mem_cons_of_mem _ (hsub g' (hp ▸ hg'))) hfr
              (fun hn hv => hv.swap hL3 hs5 hne5 (.inr ⟨9,hn⟩)) (fun hc' hn hH => hH.imp (fun h => h) fun ⟨B,cs,e,hO⟩ => ⟨B,cs,e,hO.swap hL3 (by simp) (by simp) hne5 fun _ d hd hv => hv.swap hL3 hs5 hne5 (.inr ⟨9,hn d hd⟩)⟩) hy2 (by omega) (hE.more _) rfl ⟨?_,fun x hx => ?_⟩
            · refine List.nodup_append.2 ⟨hml,hR.defers.1,fun x hx y hy hxy => ?_⟩
              subst hxy
              obtain ⟨_,B,e1,e2,_,_⟩ := hmk x hx
              obtain ⟨_,B',e1',_,_,e4',_⟩ := hR.defers.2 x hy
              rw [e1] at e1'
              injection e1' with h1; injection h1 with h1; omega
            · rcases List.mem_append.1 hx with hx | hx
              · obtain ⟨hcn,B,e1,e2,e3,e4⟩ := hmk x hx
                refine ⟨hcn,B,e1,Nat.le_trans hR.fr.size e2,fun hz => ?_,by omega,(hne5 _ (by omega)).trans ((hS3.fr.same B e3 (hnb B e2)).trans e4)⟩
                have := hR.zlt _ (hS3.old _ e3 hz); omega
              · exact (hR.defers.2 x hx).mono hfr (fun b hb hl => by
                  obtain ⟨g',c',hc',hB'⟩ := hl
                  obtain ⟨cs,e,hO⟩ := (hR.objs g' c' hc').real (by
                    rw [← hB',hb1' g' (by rintro rfl; rw [hnx] at hc'; cases hc')])
                  exact hO.ours) hZ21
          have hRel : Rel C ⟨env',s2.hp,s2.nx⟩ { a with defers := mark ++ a.defers } w5 := ⟨β2,Z2,hRf,hβ2⟩
          refine ⟨r'.pending,w5,hend,?_⟩
          rw [hpd]
          cases e' with
          | norm => exact ⟨_,hK,hRel⟩
          | ret => exact wpIn_ret ⟨_,hK,hRel⟩
          | ex id => exact wpIn_exit ⟨_,hK,hRel⟩
        cases e with
        | normal => obtain ⟨s2,hq,hr⟩ := he; exact fin _ s2 hq hr
        | ret => obtain ⟨s2,hq,hr⟩ := he; exact fin _ s2 hq hr
        | exit id => obtain ⟨s2,⟨h1,_⟩,_⟩ := he; rcases h1 with h1 | h1 <;> cases h1
        | _ => exact he.elim
      · cases hc
    all_goals (repeat' (first | (cases hc; done) | split at hc))
  | region id ops dr => simp only [compCode] at hc; repeat' (first | (cases hc; done) | split at hc)
  | seq a b => simp only [compCode] at hc; split at hc <;> cases hc
  | cond c a b => simp only [compCode] at hc; split at hc <;> cases hc
  | block id a => simp [compCode] at hc
  | loop a => simp [compCode] at hc
  | _ => cases hc
end Go.Proofs.YtbncpngjclabhaaGreat.Lift
namespace Go.Proofs.YtbncpngjclabhaaGreat.Lift
open Go Go.RowKit
theorem end_q {rs : List AResV} {h : Hp} {up : Ups} {d d0 : D} {e : AExit} {s : St} (V : List Nat) (m : List (Nat × Nat)) (hv : VR (hget s.hp) V m d0 d) (hU : EndVR s m V up) (he : e = .norm ∨ e = .ret := by first | exact .inl rfl | exact .inr rfl) (hr : resD rs s = some d0 := by exact rfl) (hV : liveB V s.hp = true := by kernel_rfl) (hpre : preB V s.hp (h.map (·.1)) = true := by kernel_rfl) (hok : okEnd m h up = true := by kernel_rfl) : endQ rs h up d e s := end_to V m he hr hV hpre hok hv hU
theorem wk_q {pre : List Nat} {s s' : St} (V : List Nat) (m : List (Nat × Nat)) (hE : VRE (hget s.hp) V m s.env s'.env) (hH : VRH s.hp V m s.nx s'.hp) (hok : okRen m pre s'.nx = true := by kernel_rfl) (hd : decide (s'.env.map (·.1)).Nodup = true := by kernel_rfl) (hd' : decide (s'.hp.map (·.1)).Nodup = true := by kernel_rfl)
    (hV : liveB V s.hp = true := by kernel_rfl) (hpre : preB V s.hp pre = true := by kernel_rfl) : Wk pre s s' := wk_to V m hok hd hd' hV hpre hE hH
theorem okY {b : Bool} (h : b = true := by kernel_rfl) : b = true := h
theorem ZU : (∀ {P dr b Q k s log},ARun P dr b Q [] k s log = Q s) ∧ (∀ {P dr b Q dst op anc l k s log},ARun P dr b Q (⟨dst,op,none,anc⟩ :: l) k s log = AOpRun P dr b Q op dst anc l k s log) ∧ (∀ {P dr b Q dst anc l k s log} {ef : Eff},okLog dr log anc ef.rd (ef.up.map (·.1)) = true → AGo P dr b Q (some ef) dst anc l k s log = ARun P dr b Q l (k + 1) (s.app dst ef.d ef.up) ((k,ef.rd,ef.up.map (·.1)) :: log)) ∧ (∀ {k t : Nat} {d : D} {r : Env},eget ((k,d) :: r) t = cond (k == t) d (eget r t)) ∧ (∀ {t : Nat} {d : D},eput [] t d = [(t,d)]) ∧ (∀ {k t : Nat} {e d : D} {r : Env},eput ((k,e) :: r) t d = cond (k == t) ((k,d) :: r) ((k,e) :: eput r t d)) ∧ (∀ {l : List Nat},dropE [] l = []) ∧ (∀ {k : Nat} {d : D} {r : Env} {l : List Nat},dropE ((k,d) :: r) l = cond (inL l k) (dropE r l) ((k,d) :: dropE r l)) ∧ (∀ {t : Nat},inL [] t = false) ∧ (∀ {k t : Nat} {r : List Nat},inL (k :: r) t = cond (k == t) true (inL r t)) ∧ (∀ {α : Type} {a b : α},cond true a b = a) ∧ (∀ {α : Type} {a b : α},cond false a b = b) ∧ ((false = true) = False) ∧ (∀ {α : Type} [BEq α] [ReflBEq α] (a : α),(a == a) = true) ∧ (∀ n : Nat,0 + n = n) ∧ ((∀ {α : Type},([] : List α).length = 0) ∧ ∀ {α : Type} (a : α) l,(a :: l).length = l.length + 1) ∧ ((∀ {α β : Type} {f : α → β},[].map f = []) ∧ ∀ {α β : Type} {f : α → β} {a l},(a :: l).map f = f a :: l.map f) ∧ ((∀ {α β : Type} {f : α → β},none.map f = none) ∧ ∀ {α β : Type} {f : α → β} {a},(some a).map f = some (f a)) ∧ (∀ {s dst d up},St.app s dst d up = ⟨putO s.env dst d,hups s.hp up,s.nx⟩) ∧ (∀ {s},St.F s = ⟨eget s.env,hget s.hp⟩) ∧ ((∀ {s t},FSt.ev s (.tmp t) = s.env t) ∧ (∀ {s v},FSt.ev s (.const v) = .val v) ∧ (∀ {s g},FSt.ev s (.global g) = GL g) ∧ ∀ {s f},FSt.ev s (.func f) = .fn f [] []) ∧ ((∀ {e d},putO e none d = e) ∧ ∀ {e t d},putO e (some t) d = eput e t d) ∧ ((∀ {h},hups h [] = h) ∧ (∀ {h g c r},hups h ((g,some c) :: r) = hput (hups h r) g c) ∧ ∀ {h g r},hups h ((g,none) :: r) = hdel (hups h r) g) ∧ (∀ {t : Nat},hget [] t = none) ∧ (∀ {k t : Nat} {d : List D} {r : Hp},hget ((k,d) :: r) t = cond (k == t) (some d) (hget r t)) ∧ (∀ {t : Nat} {d : List D},hput [] t d = [(t,d)]) ∧ (∀ {k t : Nat} {e d : List D} {r : Hp},hput ((k,e) :: r) t d = cond (k == t) ((k,d) :: r) ((k,e) :: hput r t d)) ∧ (∀ {α : Type} {a : α} {l},(a :: l)[0]? = some a) ∧ (∀ {α : Type} {a : α} {l} {i : Nat},(a :: l)[i + 1]? = l[i]?) ∧ ((∀ {α : Type},(none : Option α).isSome = false) ∧ ∀ {α : Type} {a : α},(some a).isSome = true) ∧ (∀ {α : Type} (l : List α),l ++ [] = l) ∧ (∀ {α : Type} (l : List α),[] ++ l = l) ∧ (∀ {α : Type} {a : α} {l m},a :: l ++ m = a :: (l ++ m)) ∧ (∀ {p : Prop},(p ∧ p) = p) ∧ (∀ [Decidable True],decide True = true) ∧ (∀ b,(b && true) = b) ∧ ((!true) = false) ∧ ((!false) = true) ∧ ((∀ {n},envOf n [] = []) ∧ ∀ {n d l},envOf n (d :: l) = (n,d) :: envOf (n + 1) l) ∧ ((∀ {K Q s},thenQ K Q .norm s = K s) ∧ (∀ {K Q s},thenQ K Q .ret s = Q .ret s) ∧ ∀ {K Q i s},thenQ K Q (.ex i) s = Q (.ex i) s) ∧ (∀ n : Nat,((0 : Int) ≤ n) = True) ∧ (∀ n : Nat,((n : Int)).toNat = n) := ⟨(by intros; apply ARun_nil),(by intros; apply ARun_none),(by intros; apply AGo_ok (by assumption)),(by intros; apply eget_c),by intros; rfl,(by intros; apply eput_c),by intros; rfl,(by intros; apply dropE_c),by intros; rfl,(by intros; apply inL_c),by intros; rfl,by intros; rfl,(by intros; apply Bool.false_eq_true),(by intros; apply beq_self_eq_true),(by intros; apply Nat.zero_add),⟨by intros; rfl,by intros; rfl⟩,⟨by intros; rfl,by intros; rfl⟩,⟨by intros; rfl,by intros; rfl⟩,by intros; rfl,by intros; rfl,⟨by intros; rfl,by intros; rfl,by intros; rfl,by intros; rfl⟩,⟨by intros; rfl,by intros; rfl⟩,⟨by intros; rfl,by intros; rfl,by intros; rfl⟩,by intros; rfl,(by intros; apply hget_c),by intros; rfl,(by intros; apply hput_c),by intros; rfl,by intros; rfl,⟨by intros; rfl,by intros; rfl⟩,(by intros; apply List.append_nil),by intros; rfl,by intros; rfl,(by intros; simp),(by intros; simp),(by intros; apply Bool.and_true),by intros; rfl,by intros; rfl,⟨by intros; rfl,by intros; rfl⟩,⟨by intros; rfl,by intros; rfl,by intros; rfl⟩,(by intros; simp),by intros; rfl⟩
abbrev oo (d : Nat) (x : AOp) : AOper := ⟨some d,x,none,[]⟩
abbrev oa (d : Nat) (x : AOp) (l : List Nat) : AOper := ⟨some d,x,none,l⟩
abbrev on (x : AOp) : AOper := ⟨none,x,none,[]⟩
abbrev og (d g : Nat) (b : Bool) (x : AOp) (l : List Nat) : AOper := ⟨some d,x,some (some g,b),l⟩
abbrev kI (n : Int) : Operand := .const (.int .i64 n)
abbrev om (d t : Nat) : AOper := ⟨some d,.mv (.tmp t),none,[]⟩
end Go.Proofs.YtbncpngjclabhaaGreat.Lift
