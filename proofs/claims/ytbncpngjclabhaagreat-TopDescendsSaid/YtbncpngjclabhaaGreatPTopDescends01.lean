/- Texts of the law TopDescends, part 1. No conditions. -/
import Derived.Test.YtbncpngjclabhaaGreatPTopDescends00
import Derived.WideKeyRuns
set_option linter.unusedSimpArgs false
set_option linter.unusedVariables false
set_option maxRecDepth 100000
set_option maxHeartbeats 16000000
/- What the other operations do on abstract values. No conditions. -/
namespace Go.Proofs.YtbncpngjclabhaaGreat.Lift
open Go Go.RowKit

section
variable {P : Program} {o : Oper} {ρ : Operand → D} {H : Heap} {id : Nat} {ef : Eff}

theorem at_ptr {w : World} {β : Bet} {Z : Blk} {v : Value} {g off : Nat} {c : List D} (hv : Rep w β Z v (.ptr g off)) (hc : Holds w β Z g c) (_ : c ≠ []) :
    ∃ B cs e e' n,v = .pointer (some ⟨B,off,none⟩) ∧ β g = some B ∧ ObjRep w β Z g c B cs e ∧ w.shape? B = some (e',n) := by
  cases hv with
  | ptr _ _ B e' n hb hs =>
    obtain ⟨cs,e,ho⟩ := hc.real hb
    exact ⟨B,cs,e,e',n,rfl,hb,ho,hs⟩
def aggT : TypeDesc → Bool
  | .struct _ | .array _ _ => true
  | _ => false
theorem isAgg_of {t : TypeId} {d : TypeDesc} (hu : P.underlying t = some d) (w : World) : (isAgg t).run P w = .ok (aggT d) w := by
  unfold isAgg
  simp only [Sem.run_bind,run_underlying hu,Result.andThen_ok]
  cases d <;> rfl
theorem getElem?_ne {c : List D} {i : Nat} {d : D} (h : c[i]? = some d) : c ≠ [] := by rintro rfl; simp at h
theorem does_load1 {t : TypeId} {a : Operand} {td : TypeDesc} (ho : o.op = .load t a) (hu : P.underlying t = some td) (hna : aggT td = false)
    (he : aexec ρ H id (.load1 a) = some ef) : Does P o ρ H ef := by
  intro w ev β Z hev hp
  simp only [aexec,Option.map_eq_some_iff] at he
  obtain ⟨⟨d,rd⟩,hr,rfl⟩ := he
  have h1 := hev a (by simp [ho,Op.operands])
  have key : ∀ B off v,ev a = .pointer (some ⟨B,off,none⟩) → w.cell? ⟨B,off,none⟩ = some v → (execOp ev o).run P w = .ok (.value v) w := by
    intro B off v e1 e2
    simp only [execOp,ho,Instr.loadAt,Instr.sureAddr,e1,loadVar,Sem.run_bind,Sem.run_pure,Result.andThen_ok,isAgg_of hu,hna,Bool.false_eq_true,if_false,run_load,e2]
  cases hρ : ρ a <;> rw [hρ] at hr h1 <;> simp only [run1] at hr <;> try (cases hr; done)
  · rename_i l
    simp only [Option.map_eq_some_iff,Prod.mk.injEq] at hr
    obtain ⟨d',hd',rfl,rfl⟩ := hr
    generalize ev a = v at h1 key
    cases h1 with
    | at_ b off _ vs hz hb hcell hrep =>
      obtain ⟨hlt,rfl⟩ := List.getElem?_eq_some_iff.1 hd'
      have := hcell 0 hlt
      rw [key b off (vs 0) rfl this]
      exact post_same (hrep 0 hlt).up
  · rename_i g off
    cases hH : H g with
    | none => simp [hH] at hr
    | some c =>
      simp only [hH,Option.map_eq_some_iff,Prod.mk.injEq,Nat.add_zero] at hr
      obtain ⟨d',hd',rfl,rfl⟩ := hr
      obtain ⟨B,cs,e,e',n',e1,hb,hO,hsh⟩ := at_ptr h1 (hp.objs g c (by simp) hH) (getElem?_ne hd')
      obtain ⟨hlt,rfl⟩ := List.getElem?_eq_some_iff.1 hd'
      rw [key B off _ e1 (hO.cell hsh off hlt)]
      exact post_same (hO.rep off hlt)
theorem does_loadN {t : TypeId} {a : Operand} {td : TypeDesc} {ti : TypeInfo} (ho : o.op = .load t a) (hu : P.underlying t = some td) (hna : aggT td = true) (hi : P.info? t = some ti) (h0 : P.cellsOf t ≠ 0)
    (he : aexec ρ H id (.loadN (P.cellsOf t) a) = some ef) : Does P o ρ H ef := by
  intro w ev β Z hev hp
  simp only [aexec] at he
  have h1 := hev a (by simp [ho,Op.operands])
  have key : ∀ B off (f : Nat → Value),ev a = .pointer (some ⟨B,off,none⟩) → (∀ j,j < P.cellsOf t → w.cell? ⟨B,off + j,none⟩ = some (f j)) → (execOp ev o).run P w = .ok (.value (.agg ((List.range (P.cellsOf t)).map f).toArray)) w := by
    intro B off f e1 e2
    simp only [execOp,ho,Instr.loadAt,Instr.sureAddr,e1,loadVar,Sem.run_bind,Sem.run_pure,Result.andThen_ok,isAgg_of hu,hna,if_true,run_sizeOf w hi,run_loads w B off _ f e2]
  have rep : ∀ (f : Nat → Value) (l : List D),l.length = P.cellsOf t → (∀ j (h : j < l.length),Rep w β Z (f j) l[j]) → Rep w β Z (.agg ((List.range (P.cellsOf t)).map f).toArray) (.agg l) := by
    intro f l hl hr
    refine .agg _ _ (by simp [hl]) fun j hj => ?_
    have : (((List.range (P.cellsOf t)).map f).toArray).getD j undef = f j := by simp [hl ▸ hj]
    rw [this]
    exact hr j hj
  cases hρ : ρ a <;> rw [hρ] at he h1 <;> simp only at he <;> try (cases he; done)
  · rename_i l
    split at he
    · rename_i hle
      cases he
      generalize ev a = v at h1 key
      cases h1 with
      | at_ b off _ vs hz hb hcell hrep =>
        rw [key b off vs rfl (fun j hj => hcell j (by omega))]
        refine post_same (rep vs _ (by simp; omega) fun j hj => ?_)
        have hj' : j < l.length := by simp at hj; omega
        simp only [List.getElem_take]
        exact (hrep j hj').up
    · cases he
  · rename_i g off
    cases hH : H g with
    | none => simp [hH] at he
    | some c =>
      simp only [hH] at he
      split at he
      · rename_i hle
        cases he
        have hne : c ≠ [] := by rintro rfl; simp at hle; omega
        obtain ⟨B,cs,e,e',n',e1,hb,hO,hsh⟩ := at_ptr h1 (hp.objs g c (by simp) hH) hne
        rw [key B off (fun j => cs.getD (off + j) undef) e1 (fun j hj => hO.cell hsh (off + j) (by omega))]
        refine post_same (rep _ _ (by simp; omega) fun j hj => ?_)
        have hj' : off + j < c.length := by simp at hj; omega
        simp only [List.getElem_take,List.getElem_drop]
        exact hO.rep (off + j) hj'
      · cases he

theorem post_store {w w' : World} {β : Bet} {Z : Blk} {g B : Nat} {c c' : List D} {cs cs' : Array Value} {e : TypeId} (hO : ObjRep w β Z g c B cs e) (hH : H g = some c) (hf : Fr (fun b => b = B) w w') (hb : w'.heap[B]? = some (.cells cs' e (0,0)))
    (hr : c'.length ≤ cs'.size ∧ ∀ i (h : i < c'.length),Rep w β Z (cs'.getD i undef) c'[i]) : Post w β Z H ⟨.val undef,[],[(g,some c')]⟩ undef w' := by
  have hids : ∀ x,x ∈ (⟨.val undef,[],[(g,some c')]⟩ : Eff).ids ↔ x = g := fun x => by simp [Eff.ids]
  have hup : ∀ x c1,x ∈ (⟨.val undef,[],[(g,some c')]⟩ : Eff).ids → upH H [(g,some c')] x = some c1 → x = g ∧ c1 = c' := fun x c1 hx hc => by
    rw [hids] at hx
    subst hx
    simp [upH] at hc
    exact ⟨rfl,hc.symm⟩
  have hZ : ∀ b,Zof Z β ⟨.val undef,[],[(g,some c')]⟩ b ↔ Z b := fun b => by
    constructor
    · rintro (h | ⟨x,hx,hb⟩)
      · exact h
      · rw [hids] at hx; subst hx
        rw [hO.at_] at hb; cases hb
        exact hO.ours
    · exact .inl
  have hX : ∀ b,b < w.heap.size → b = B → Z b := fun b _ h => h ▸ hO.ours
  refine ⟨β,Ext.refl β,fun _ h => .inl h,hf.mono (fun b _ h => ⟨g,c,(hids g).2 rfl,hH,h ▸ hO.at_⟩),.val _,fun x c1 hx hc => ?_,fun x c1 B' hx hc hb' => ?_,fun b _ h => (hZ b).1 h,fun hzl b h => Nat.lt_of_lt_of_le (hzl b ((hZ b).1 h)) hf.size,fun x x' c1 c2 _ hx hx' _ _ _ _ => ((hids x).1 hx).trans ((hids x').1 hx').symm⟩
  · obtain ⟨rfl,rfl⟩ := hup x c1 hx hc
    exact .inr ⟨B,cs',e,hO.at_,(hZ B).2 hO.ours,.inl hb,hr.1,fun i hi => (hr.2 i hi).mono hf hX (Ext.refl β) fun b _ h => (hZ b).1 h⟩
  · obtain ⟨rfl,rfl⟩ := hup x c1 hx hc
    rw [hO.at_] at hb'
    cases hb'
    exact .inr ⟨x,c,hx,hH,hO.at_⟩
theorem does_store {t : TypeId} {a v : Operand} {ti : TypeInfo} (ho : o.op = .store t a v) (hi : P.info? t = some ti) (h0 : P.cellsOf t ≠ 0)
    (he : aexec ρ H id (.store (P.cellsOf t) a v) = some ef) : Does P o ρ H ef := by
  intro w ev β Z hev hp
  simp only [aexec] at he
  have h1 := hev a (by simp [ho,Op.operands])
  have h2 := hev v (by simp [ho,Op.operands])
  cases hρ : ρ a <;> rw [hρ] at he h1 <;> simp only at he <;> try (cases he; done)
  rename_i g off
  cases hH : H g with
  | none => simp [hH] at he
  | some c =>
    simp only [hH] at he
    split at he
    · rename_i hcond
      obtain ⟨hbot,hlen,hle,hleaf⟩ := hcond
      cases he
      have hne : c ≠ [] := by rintro rfl; simp at hle; omega
      obtain ⟨B,cs,e,e',n',e1,hb,hO,hsh⟩ := at_ptr h1 (hp.objs g c (by simp [Eff.ids]) hH) hne
      obtain ⟨hs,hrep⟩ := h2.cells hbot
      have hfit := hO.fits
      have hlv : ∀ u ∈ (ev v).cells.toList,(∀ a,u ≠ .agg a) ∧ (∀ a,u ≠ .tuple a) := by
        intro u hu
        obtain ⟨i,hi,rfl⟩ := List.getElem_of_mem hu
        have hi' : i < (ev v).cells.size := by simpa using hi
        have hi2 : i < (ρ v).cells.length := by omega
        have := hrep i hi2
        have hl := List.all_eq_true.1 hleaf _ (List.getElem_mem hi2)
        rw [show (ev v).cells.getD i undef = (ev v).cells[i] by simp [hi']] at this
        simpa using this.leaf hl
      obtain ⟨w',cs',hr,hf,hb',hsz,hg⟩ := run_stores (P := P) B e off (ev v).cells.toList 0 w cs (hO.block hsh) (by simp; omega) hlv
      have : (execOp ev o).run P w = .ok .skip w' := by
        have hsz' : (ev v).cells.size = P.cellsOf t := by omega
        simp only [execOp,ho,Instr.storeAt,Instr.sureAddr,e1,storeVar,Sem.run_bind,Sem.run_pure,Result.andThen_ok,run_sizeOf w hi]
        simp only [hsz',ne_eq,not_true,if_false]
        simp only [hr,Result.andThen_ok]
      rw [this]
      refine post_store hO hH hf hb' ⟨by rw [splice_len (by omega),hsz]; exact hfit,fun i hi => ?_⟩
      rw [splice_get (by omega),hg]
      have hi2 : i < c.length := by rw [splice_len (by omega)] at hi; exact hi
      by_cases hin : off ≤ i ∧ i < off + (ρ v).cells.length
      · rw [dif_pos hin,if_pos (by simp; omega)]
        have := hrep (i - off) (by omega)
        have hlt : i - off < (ev v).cells.size := by omega
        simp [hlt] at this ⊢
        exact this
      · rw [dif_neg hin,if_neg (by simp; omega)]
        exact hO.rep i hi2
    · cases he
theorem does_nilc {x : Operand} (ho : o.op = .nilCheck x) (he : aexec ρ H id (.nilc x) = some ef) : Does P o ρ H ef := by
  intro w ev β Z hev hp
  simp only [aexec] at he
  have h1 := hev x (by simp [ho,Op.operands])
  have key : (∃ a,ev x = .pointer (some a)) ∨ (∃ f us vs,ev x = .func (.func f) us vs) → (execOp ev o).run P w = .ok (.value (ev x)) w := by
    rintro (⟨a,e⟩ | ⟨f,us,vs,e⟩) <;> simp only [execOp,ho,e] <;> rfl
  cases hρ : ρ x <;> rw [hρ] at he h1 <;> simp only at he <;> try (cases he; done)
  all_goals
    cases he
    rw [key (by generalize ev x = v at h1; cases h1 <;> simp)]
    exact post_same h1
theorem does_bin {t u : TypeId} {op : BinOp} {x y : Operand} (ho : o.op = .binOp op t x y u) (he : aexec ρ H id (.bin op x y) = some ef) : Does P o ρ H ef := by
  intro w ev β Z hev hp
  simp only [aexec] at he
  have h1 := hev x (by simp [ho,Op.operands])
  have h2 := hev y (by simp [ho,Op.operands])
  split at he
  · rename_i k a k' b hx hy
    rw [hx] at h1
    rw [hy] at h2
    have e1 := h1.val_eq
    have e2 := h2.val_eq
    have hg : ∀ op : BinOp,(eqGuard op t x y (.int k a) (.int k' b)).run P w = .ok () w := fun op => by cases op <;> rfl
    have key : ∀ v,(binOp op t (.int k a) (.int k' b)).run P w = .ok v w → (execOp ev o).run P w = .ok (.value v) w := by
      intro v hv
      simp only [execOp,ho,← e1,← e2,Sem.run_bind,hg,Result.andThen_ok,hv,Sem.run_pure]
    split at he
    · rename_i hs
      simp only [Option.map_eq_some_iff] at he
      obtain ⟨v,hv,rfl⟩ := he
      rw [key v]
      · exact post_same (.val _)
      · cases op <;> simp [isSh] at hs <;> simp only [ash] at hv <;> split at hv <;> cases hv <;> (rename_i hb; have hb' : ¬ b < 0 := by omega) <;> simp [binOp,Op.shift,hb']
    · rename_i hs
      split at he
      · rename_i hk
        subst hk
        simp only [Option.map_eq_some_iff] at he
        obtain ⟨v,hv,rfl⟩ := he
        rw [key v]
        · exact post_same (.val _)
        · cases op <;> simp [isSh] at hs <;> simp only [abin] at hv <;> (try split at hv) <;> cases hv <;> simp_all [binOp,Op.intArith,Op.intDiv,Op.intBits,Op.intCmp]
      · cases he
  · cases he
theorem does_eqb {t u : TypeId} {neg : Bool} {x y : Operand} (ho : o.op = .binOp (if neg then .neq else .eql) t x y u) (hu : P.underlying t = some .bool) (he : aexec ρ H id (.eqb neg x y) = some ef) : Does P o ρ H ef := by
  intro w ev β Z hev hp
  simp only [aexec] at he
  have h1 := hev x (by simp [ho,Op.operands])
  have h2 := hev y (by simp [ho,Op.operands])
  split at he
  · rename_i a b hx hy
    rw [hx] at h1
    rw [hy] at h2
    have e1 := h1.val_eq
    have e2 := h2.val_eq
    cases he
    have : (execOp ev o).run P w = .ok (.value (.bool ((a == b) != neg))) w := by
      have hg : ∀ op : BinOp,(eqGuard op t x y (.bool a) (.bool b)).run P w = .ok () w := fun op => by cases op <;> rfl
      cases neg
      · simp only [execOp,ho,← e1,← e2,Sem.run_bind,hg,Result.andThen_ok,Bool.false_eq_true,if_false,binOp,run_equal_bool w t a b hu,Sem.run_pure]
        simp
      · simp only [execOp,ho,← e1,← e2,Sem.run_bind,hg,Result.andThen_ok,if_true,binOp,run_equal_bool w t a b hu,Sem.run_pure]
        simp
    rw [this]
    exact post_same (.val _)
  · cases he
theorem does_eqn {t u e : TypeId} {neg : Bool} {x y : Operand} (ho : o.op = .binOp (if neg then .neq else .eql) t x y u) (hu : P.underlying t = some (.slice e)) (he : aexec ρ H id (.eqn neg x y) = some ef) : Does P o ρ H ef := by
  intro w ev β Z hev hp
  simp only [aexec] at he
  have h1 := hev x (by simp [ho,Op.operands])
  have h2 := hev y (by simp [ho,Op.operands])
  have key : ∀ a l c,ev x = .slice a l c → ev y = .slice none 0 0 → (execOp ev o).run P w = .ok (.value (.bool (a.isNone != neg))) w := by
    intro a l c e1 e2
    have hg : ∀ op : BinOp,(eqGuard op t x y (.slice a l c) (.slice none 0 0)).run P w = .ok () w := fun op => by cases op <;> rfl
    cases neg
    · simp only [execOp,ho,e1,e2,Sem.run_bind,hg,Result.andThen_ok,Bool.false_eq_true,if_false,binOp,run_equal_slice_nil w t e a l c hu,Sem.run_pure]
      simp
    · simp only [execOp,ho,e1,e2,Sem.run_bind,hg,Result.andThen_ok,if_true,binOp,run_equal_slice_nil w t e a l c hu,Sem.run_pure]
      simp
  split at he
  · rename_i hx hy
    rw [hx] at h1; rw [hy] at h2
    cases he
    rw [key none 0 0 h1.val_eq.symm h2.val_eq.symm]
    exact post_same (.val _)
  · rename_i hx hy
    rw [hx] at h1; rw [hy] at h2
    cases he
    generalize hvx : ev x = vx at h1
    cases h1
    rw [key _ _ _ hvx h2.val_eq.symm]
    exact post_same (.val _)
  · rename_i hx hy
    rw [hx] at h1; rw [hy] at h2
    split at he
    · cases he
      generalize hvx : ev x = vx at h1
      cases h1
      · exfalso; omega
      · rw [key _ _ _ hvx h2.val_eq.symm]
        exact post_same (.val _)
    · cases he
  · rename_i hx hy
    rw [hx] at h1; rw [hy] at h2
    split at he
    · rename_i hl
      cases he
      generalize hvx : ev x = vx at h1
      cases h1
      · simp at hl
      · rw [key _ _ _ hvx h2.val_eq.symm]
        exact post_same (.val _)
    · cases he
  · cases he
theorem does_un {t : TypeId} {op : UnOp} {x : Operand} (ho : o.op = .unOp op t x) (he : aexec ρ H id (.un op x) = some ef) : Does P o ρ H ef := by
  intro w ev β Z hev hp
  simp only [aexec] at he
  have h1 := hev x (by simp [ho,Op.operands])
  split at he
  · rename_i k n hx
    rw [hx] at h1
    cases he
    have : (execOp ev o).run P w = .ok (.value (.int k (k.wrap (0 - n)))) w := by
      simp only [execOp,ho,← h1.val_eq,Op.unary,Op.intArith,Sem.run_bind,Sem.run_pure,Result.andThen_ok]
    rw [this]
    exact post_same (.val _)
  · rename_i b hx
    rw [hx] at h1
    cases he
    have : (execOp ev o).run P w = .ok (.value (.bool !b)) w := by
      simp only [execOp,ho,← h1.val_eq,Op.unary,Sem.run_bind,Sem.run_pure,Result.andThen_ok]
    rw [this]
    exact post_same (.val _)
  · cases he
theorem does_conv {s t : TypeId} {k k' : IntKind} {x : Operand} (ho : o.op = .convert s t x) (hs : P.underlying s = some (.int k')) (ht : P.underlying t = some (.int k)) (he : aexec ρ H id (.conv k x) = some ef) : Does P o ρ H ef := by
  intro w ev β Z hev hp
  simp only [aexec] at he
  have h1 := hev x (by simp [ho,Op.operands])
  split at he
  · rename_i n hx
    rw [hx] at h1
    cases he
    have : (execOp ev o).run P w = .ok (.value (.int k (k.wrap n))) w := by
      simp only [execOp,ho,← h1.val_eq,convert,Sem.run_bind,run_underlying hs,run_underlying ht,Result.andThen_ok,Conv.intToInt,Sem.run_pure]
    rw [this]
    exact post_same (.val _)
  · cases he
theorem does_mkfn {f : FuncId} {first caps : Array Operand} (ho : o.op = .makeFunc (.func f) first caps) (he : aexec ρ H id (.mkfn f first.toList caps.toList) = some ef) : Does P o ρ H ef := by
  intro w ev β Z hev hp
  simp only [aexec] at he
  cases he
  have : (execOp ev o).run P w = .ok (.value (.func (.func f) (first.map ev) (caps.map ev))) w := by
    simp only [execOp,ho,Instr.makeFunc,Sem.run_bind,Sem.run_pure,Result.andThen_ok]
  rw [this]
  refine post_same (.fn f _ _ _ _ (by simp) (fun i hi => ?_) (by simp) fun i hi => ?_)
  · have hi' : i < first.size := by simpa using hi
    rw [show (first.map ev).getD i undef = ev first[i] by simp [hi']]
    simp only [List.getElem_map,Array.getElem_toList]
    exact hev _ (by simp [ho,Op.operands])
  · have hi' : i < caps.size := by simpa using hi
    rw [show (caps.map ev).getD i undef = ev caps[i] by simp [hi']]
    simp only [List.getElem_map,Array.getElem_toList]
    exact hev _ (by simp [ho,Op.operands])
end
end Go.Proofs.YtbncpngjclabhaaGreat.Lift
namespace Go.Proofs.YtbncpngjclabhaaGreat.Lift
open Go Go.RowKit

section
variable {P : Program} {o : Oper} {ρ : Operand → D} {H : Heap} {id : Nat} {ef : Eff}

theorem does_len {t e : TypeId} {x : Operand} (ho : o.op = .call ⟨.builtin .len, #[x], #[t]⟩) (hu : P.underlying t = some (.slice e)) (he : aexec ρ H id (.len_ x) = some ef) : Does P o ρ H ef := by
  intro w ev β Z hev hp
  simp only [aexec] at he
  have h1 := hev x (by simp [ho,Op.operands,Call.operands])
  have key : ∀ a n c,ev x = .slice a n c → (execOp ev o).run P w = .ok (.value (.int .i64 n)) w := by
    intro a n c e1
    simp only [execOp,ho,resolve,invoke,builtin,Builtin.len_,Sem.run_bind,Sem.run_pure,Result.andThen_ok,goInt]
    simp [e1,run_underlying hu]
  generalize hv : ev x = v at h1
  split at he
  · rename_i hx; rw [hx] at h1; cases he; cases h1 <;> (rw [key _ _ _ hv]; exact post_same (.val _))
  · rename_i hx; rw [hx] at h1; cases he; cases h1 <;> (rw [key _ _ _ hv]; exact post_same (.val _))
  · rename_i hx; rw [hx] at h1; cases he; cases h1 <;> (rw [key _ _ _ hv]; exact post_same (.val _))
  · rename_i hx; rw [hx] at h1; cases he; cases h1 <;> (rw [key _ _ _ hv]; exact post_same (.val _))
  · rename_i hx; rw [hx] at h1; cases he; have := h1.val_eq; subst this; rw [key _ _ _ hv]; exact post_same (.val _)
  · cases he
theorem does_lenC {t e : TypeId} {n : Nat} {x : Operand} (ho : o.op = .call ⟨.builtin .len, #[x], #[t]⟩) (hu : P.underlying t = some (.array n e)) (he : aexec ρ H id (.lenC n) = some ef) : Does P o ρ H ef := by
  intro w ev β Z hev hp
  simp only [aexec] at he
  cases he
  have : (execOp ev o).run P w = .ok (.value (.int .i64 n)) w := by
    simp only [execOp,ho,resolve,invoke,builtin,Builtin.len_,Sem.run_bind,Sem.run_pure,Result.andThen_ok,goInt]
    simp [run_underlying hu]
  rw [this]
  exact post_same (.val _)
theorem foldI_sound {w : World} (f : Int → Int → Int) (g : Value → Value → Sem Value) (hg : ∀ a b,g (.int .i64 a) (.int .i64 b) = pure (.int .i64 (f a b))) {β : Bet} {Z : Blk} : ∀ (ds : List D) (vs : List Value) (a n : Int),foldI f a ds = some n → ds.length = vs.length →
    (∀ i (h : i < ds.length) (h' : i < vs.length),Rep w β Z vs[i] ds[i]) → (vs.foldlM g (.int .i64 a)).run P w = .ok (.int .i64 n) w
  | [],[],a,n,h,_,_ => by simp only [foldI,Option.some.injEq] at h; subst h; rfl
  | [],_ :: _,_,_,_,h,_ => by simp at h
  | d :: ds,[],_,_,_,h,_ => by simp at h
  | d :: ds,v :: vs,a,n,h,hl,hr => by
    have h0 := hr 0 (by simp) (by simp)
    simp only [List.getElem_cons_zero] at h0
    unfold foldI at h
    split at h
    · rename_i heq; cases heq
    · rename_i b r heq
      obtain ⟨rfl,rfl⟩ := List.cons.inj heq
      have := h0.val_eq
      subst this
      rw [List.foldlM_cons,hg]
      exact foldI_sound f g hg ds vs _ n h (by simpa using hl) (fun i h1 h2 => by have := hr (i + 1) (by simp; omega) (by simp; omega); simpa using this)
    · cases h
theorem does_mnx {c : Call} {mx : Bool} (ho : o.op = .call c) (hc : c.callee = .builtin (if mx then .max else .min)) (he : aexec ρ H id (.mnx mx c.args.toList) = some ef) : Does P o ρ H ef := by
  intro w ev β Z hev hp
  simp only [aexec] at he
  split at he
  · rename_i a r hm
    simp only [Option.map_eq_some_iff] at he
    obtain ⟨n,hn,rfl⟩ := he
    obtain ⟨x,xs,hxs,hx,hr⟩ := List.map_eq_cons_iff.1 hm
    have hop : ∀ y ∈ c.args.toList,y ∈ o.op.operands := fun y hy => by
      rw [ho]
      cases mx <;> simp [Op.operands,Call.operands,hc,Array.mem_toList_iff] at hy ⊢ <;> simpa using hy
    have hx' := hev x (hop x (by rw [hxs]; simp))
    rw [hx] at hx'
    have e1 := hx'.val_eq
    have hvs : (c.args.map ev).toList = .int .i64 a :: xs.map ev := by rw [Array.toList_map,hxs,List.map_cons,e1]
    have hrep : ∀ i (h : i < r.length) (h' : i < (xs.map ev).length),Rep w β Z (xs.map ev)[i] r[i] := by
      intro i h h'
      subst hr
      simp only [List.getElem_map]
      exact hev _ (hop _ (by rw [hxs]; simp))
    have hl : r.length = (xs.map ev).length := by subst hr; simp
    have : (execOp ev o).run P w = .ok (.value (.int .i64 n)) w := by
      cases mx
      · have := foldI_sound (P := P) (w := w) mn2 Builtin.min2 (fun a b => rfl) r (xs.map ev) a n hn hl hrep
        simp only [execOp,ho,resolve,hc,invoke,builtin,Builtin.min_,Sem.run_bind,Sem.run_pure,Result.andThen_ok,hvs,Bool.false_eq_true,if_false,this]
      · have := foldI_sound (P := P) (w := w) mx2 Builtin.max2 (fun a b => rfl) r (xs.map ev) a n hn hl hrep
        simp only [execOp,ho,resolve,hc,invoke,builtin,Builtin.max_,Sem.run_bind,Sem.run_pure,Result.andThen_ok,hvs,if_true,this]
    rw [this]
    exact post_same (.val _)
  · cases he
theorem does_ext {x : Operand} {i : Nat} (ho : o.op = .extract x i) (he : aexec ρ H id (.ext x i) = some ef) : Does P o ρ H ef := by
  intro w ev β Z hev hp
  simp only [aexec] at he
  have h1 := hev x (by simp [ho,Op.operands])
  split at he
  · rename_i l hx
    rw [hx] at h1
    simp only [opt1,Option.map_eq_some_iff] at he
    obtain ⟨d,hd,rfl⟩ := he
    obtain ⟨hlt,rfl⟩ := List.getElem?_eq_some_iff.1 hd
    generalize hv : ev x = v at h1
    cases h1 with
    | tup cs _ hl hr =>
      have hlt' : i < cs.size := by omega
      have : (execOp ev o).run P w = .ok (.value cs[i]) w := by
        simp only [execOp,ho,Instr.extract,hv,hlt',Array.getElem?_eq_getElem,Sem.run_bind,Sem.run_pure,Result.andThen_ok]
      rw [this]
      have := hr i hlt
      rw [show cs.getD i undef = cs[i] by simp [hlt']] at this
      exact post_same this
  · cases he
theorem agg_cells {w : World} {β : Bet} {Z : Blk} {v : Value} {d : D} (h : Rep w β Z v d) (ha : d.isAgg = true) : ∃ cs,v = .agg cs ∧ RepL w β Z cs d.cells := by
  have hb : d.isBot = false := by cases d <;> simp_all [D.isAgg,D.isBot]
  obtain ⟨h1,h2⟩ := h.cells hb
  cases h with
  | val v => cases v <;> simp [D.isAgg] at ha; exact ⟨_,rfl,h1,h2⟩
  | agg cs l hl hr => exact ⟨cs,rfl,h1,h2⟩
  | _ => simp [D.isAgg] at ha
theorem part_one {t : TypeId} {td : TypeDesc} {w : World} {cs : Array Value} {off : Nat} (hu : P.underlying t = some td) (hna : aggT td = false) (h : off < cs.size) :
    (part t cs off).run P w = .ok (cs.getD off undef) w := by
  simp only [part,Sem.run_bind,isAgg_of hu,hna,Result.andThen_ok,Bool.false_eq_true,if_false,h,Array.getElem?_eq_getElem,Sem.run_pure]
  simp [h]
theorem part_many {t : TypeId} {td : TypeDesc} {ti : TypeInfo} {w : World} {cs : Array Value} {off : Nat} (hu : P.underlying t = some td) (hna : aggT td = true) (hi : P.info? t = some ti) :
    (part t cs off).run P w = .ok (.agg (cs.extract off (off + P.cellsOf t))) w := by
  simp only [part,Sem.run_bind,isAgg_of hu,hna,Result.andThen_ok,if_true,run_sizeOf w hi,Sem.run_pure]
theorem rep_extract {w : World} {β : Bet} {Z : Blk} {cs : Array Value} {c : List D} {off n : Nat} (h : RepL w β Z cs c) (hl : off + n ≤ c.length) : Rep w β Z (.agg (cs.extract off (off + n))) (.agg ((c.drop off).take n)) := by
  have hs := h.1
  refine .agg _ _ (by simp; omega) fun i hi => ?_
  have hi' : i < n := by simp at hi; omega
  have h1 := h.2 (off + i) (by omega)
  have hlt : off + i < cs.size := by omega
  have hlt2 : i < (cs.extract off (off + n)).size := by simp; omega
  have e1 : (cs.extract off (off + n)).getD i undef = cs.getD (off + i) undef := by
    rw [Array.getD_eq_getD_getElem?,Array.getD_eq_getD_getElem?,Array.getElem?_eq_getElem hlt2,Array.getElem?_eq_getElem hlt,Array.getElem_extract]
  rw [e1]
  simpa using h1
theorem does_fld1 {s : TypeId} {x : Operand} {f : Nat} {fields : Array Field} {fd : Field} {td : TypeDesc} (ho : o.op = .field s x f) (hs : P.underlying s = some (.struct fields)) (hf : fields[f]? = some fd)
    (hu : P.underlying fd.type = some td) (hna : aggT td = false) (he : aexec ρ H id (.fld1 fd.offset x) = some ef) : Does P o ρ H ef := by
  intro w ev β Z hev hp
  simp only [aexec] at he
  split at he
  · rename_i ha
    simp only [opt1,Option.map_eq_some_iff] at he
    obtain ⟨d,hd,rfl⟩ := he
    obtain ⟨cs,e1,hR⟩ := agg_cells (hev x (by simp [ho,Op.operands])) ha
    obtain ⟨hlt,rfl⟩ := List.getElem?_eq_some_iff.1 hd
    have hlt' : fd.offset < cs.size := by rw [hR.1]; exact hlt
    have : (execOp ev o).run P w = .ok (.value (cs.getD fd.offset undef)) w := by
      simp only [execOp,ho,Instr.field,Sem.run_bind,run_underlying hs,Result.andThen_ok,hf,e1,asAgg,Sem.run_pure,part_one hu hna hlt']
    rw [this]
    exact post_same (hR.2 _ hlt)
  · cases he
theorem does_fldN {s : TypeId} {x : Operand} {f : Nat} {fields : Array Field} {fd : Field} {td : TypeDesc} {ti : TypeInfo} (ho : o.op = .field s x f) (hs : P.underlying s = some (.struct fields)) (hf : fields[f]? = some fd)
    (hu : P.underlying fd.type = some td) (hna : aggT td = true) (hi : P.info? fd.type = some ti) (he : aexec ρ H id (.fldN fd.offset (P.cellsOf fd.type) x) = some ef) : Does P o ρ H ef := by
  intro w ev β Z hev hp
  simp only [aexec] at he
  split at he
  · rename_i ha
    cases he
    obtain ⟨cs,e1,hR⟩ := agg_cells (hev x (by simp [ho,Op.operands])) ha.1
    have : (execOp ev o).run P w = .ok (.value (.agg (cs.extract fd.offset (fd.offset + P.cellsOf fd.type)))) w := by
      simp only [execOp,ho,Instr.field,Sem.run_bind,run_underlying hs,Result.andThen_ok,hf,e1,asAgg,Sem.run_pure,part_many hu hna hi]
    rw [this]
    exact post_same (rep_extract hR ha.2)
  · cases he
theorem does_idx1 {t e : TypeId} {len : Nat} {x i : Operand} {td : TypeDesc} {ti : TypeInfo} (ho : o.op = .index t x i) (ht : P.underlying t = some (.array len e))
    (hu : P.underlying e = some td) (hna : aggT td = false) (hi : P.info? e = some ti) (he : aexec ρ H id (.idx1 len (P.cellsOf e) x i) = some ef) : Does P o ρ H ef := by
  intro w ev β Z hev hp
  simp only [aexec] at he
  split at he
  · rename_i k n hn
    split at he
    · rename_i ha
      simp only [opt1,Option.map_eq_some_iff] at he
      obtain ⟨d,hd,rfl⟩ := he
      have hix := hev i (by simp [ho,Op.operands])
      rw [hn] at hix
      obtain ⟨cs,e1,hR⟩ := agg_cells (hev x (by simp [ho,Op.operands])) ha.1
      obtain ⟨hlt,rfl⟩ := List.getElem?_eq_some_iff.1 hd
      have hlt' : n.toNat * P.cellsOf e < cs.size := by rw [hR.1]; exact hlt
      have : (execOp ev o).run P w = .ok (.value (cs.getD (n.toNat * P.cellsOf e) undef)) w := by
        simp only [execOp,ho,Instr.index,← hix.val_eq,e1,Sem.run_bind,run_underlying ht,Result.andThen_ok,asIntOf,Sem.run_pure,Sem.run_ite,if_pos ha.2,run_sizeOf w hi,part_one hu hna hlt']
      rw [this]
      exact post_same (hR.2 _ hlt)
    · cases he
  · cases he
theorem does_idxN {t e : TypeId} {len : Nat} {x i : Operand} {td : TypeDesc} {ti : TypeInfo} (ho : o.op = .index t x i) (ht : P.underlying t = some (.array len e))
    (hu : P.underlying e = some td) (hna : aggT td = true) (hi : P.info? e = some ti) (he : aexec ρ H id (.idxN len (P.cellsOf e) x i) = some ef) : Does P o ρ H ef := by
  intro w ev β Z hev hp
  simp only [aexec] at he
  split at he
  · rename_i k n hn
    split at he
    · rename_i ha
      cases he
      have hix := hev i (by simp [ho,Op.operands])
      rw [hn] at hix
      obtain ⟨cs,e1,hR⟩ := agg_cells (hev x (by simp [ho,Op.operands])) ha.1
      have : (execOp ev o).run P w = .ok (.value (.agg (cs.extract (n.toNat * P.cellsOf e) (n.toNat * P.cellsOf e + P.cellsOf e)))) w := by
        simp only [execOp,ho,Instr.index,← hix.val_eq,e1,Sem.run_bind,run_underlying ht,Result.andThen_ok,asIntOf,Sem.run_pure,Sem.run_ite,if_pos (And.intro ha.2.1 ha.2.2.1),run_sizeOf w hi,part_many hu hna hi]
      rw [this]
      exact post_same (rep_extract hR ha.2.2.2)
    · cases he
  · cases he
end
end Go.Proofs.YtbncpngjclabhaaGreat.Lift
namespace Go.Proofs.YtbncpngjclabhaaGreat.Lift
open Go Go.RowKit

section
variable {P : Program} {o : Oper} {ρ : Operand → D} {H : Heap} {id : Nat} {ef : Eff}

theorem rep_at_drop {w : World} {β : Bet} {Z : Blk} {b off n : Nat} {l : List D} (h : Rep w β Z (.pointer (some ⟨b,off,none⟩)) (.at_ l)) : Rep w β Z (.pointer (some ⟨b,off + n,none⟩)) (.at_ (l.drop n)) := by
  cases h with
  | at_ _ _ _ vs hz hb hcell hrep =>
    refine .at_ b (off + n) _ (fun j => vs (n + j)) hz hb (fun j hj => ?_) (fun j hj => ?_)
    · have hj' : n + j < l.length := by simp at hj; omega
      rw [show off + n + j = off + (n + j) by omega]
      exact hcell (n + j) hj'
    · have hj' : n + j < l.length := by simp at hj; omega
      simp only [List.getElem_drop]
      exact hrep (n + j) hj'
theorem does_fad {s : TypeId} {x : Operand} {f : Nat} {fields : Array Field} {fd : Field} {ti : TypeInfo} (ho : o.op = .fieldAddr s x f) (hs : P.underlying s = some (.struct fields)) (hf : fields[f]? = some fd)
    (hi : P.info? fd.type = some ti) (h0 : P.cellsOf fd.type ≠ 0) (he : aexec ρ H id (.fad fd.offset x) = some ef) : Does P o ρ H ef := by
  intro w ev β Z hev hp
  simp only [aexec] at he
  have h1 := hev x (by simp [ho,Op.operands])
  have key : ∀ B off,ev x = .pointer (some ⟨B,off,none⟩) → (execOp ev o).run P w = .ok (.value (.pointer (some ⟨B,off + fd.offset,none⟩))) w := by
    intro B off e1
    simp only [execOp,ho,Instr.fieldAt,Sem.run_bind,run_underlying hs,Result.andThen_ok,hf,e1,Instr.sureAddr,Sem.run_pure,fieldPlace,run_sizeOf w hi]
    simp only [h0,if_false,add_none,Sem.run_pure,Result.andThen_ok]
  split at he
  · rename_i g off hx
    rw [hx] at h1
    cases he
    generalize hv : ev x = v at h1
    cases h1 with
    | ptr _ _ B e n' hb hs =>
      rw [key B off hv]
      exact post_same (.ptr _ _ B e n' hb hs)
  · rename_i l hx
    rw [hx] at h1
    cases he
    generalize hv : ev x = v at h1
    cases h1 with
    | at_ b off _ vs hz hb hcell hrep =>
      rw [key b off hv]
      exact post_same (rep_at_drop (.at_ b off l vs hz hb hcell hrep))
  · cases he
theorem does_iadA {t e : TypeId} {len : Nat} {x i : Operand} {ti : TypeInfo} (ho : o.op = .indexAddr t x i) (ht : P.underlying t = some (.array len e)) (hi : P.info? e = some ti)
    (he : aexec ρ H id (.iadA len (P.cellsOf e) x i) = some ef) : Does P o ρ H ef := by
  intro w ev β Z hev hp
  simp only [aexec] at he
  have h1 := hev x (by simp [ho,Op.operands])
  have h2 := hev i (by simp [ho,Op.operands])
  have key : ∀ B off k n,ev x = .pointer (some ⟨B,off,none⟩) → ev i = .int k n → 0 ≤ n ∧ n < len → (execOp ev o).run P w = .ok (.value (.pointer (some ⟨B,off + n.toNat * P.cellsOf e,none⟩))) w := by
    intro B off k n e1 e2 hn
    simp only [execOp,ho,Instr.indexAt,Sem.run_bind,e1,e2,asIntOf,Sem.run_pure,Result.andThen_ok,run_underlying ht,Instr.sureAddr,Sem.run_ite,if_pos hn,run_sizeOf w hi,add_none]
  split at he
  · rename_i g off k n hx hn
    rw [hx] at h1; rw [hn] at h2
    split at he
    · rename_i hc
      cases he
      generalize hv : ev x = v at h1
      cases h1 with
      | ptr _ _ B e' n' hb hs =>
        rw [key B off k n hv h2.val_eq.symm hc]
        exact post_same (.ptr _ _ B e' n' hb hs)
    · cases he
  · rename_i l k n hx hn
    rw [hx] at h1; rw [hn] at h2
    split at he
    · rename_i hc
      cases he
      generalize hv : ev x = v at h1
      cases h1 with
      | at_ b off _ vs hz hb hcell hrep =>
        rw [key b off k n hv h2.val_eq.symm hc]
        exact post_same (rep_at_drop (.at_ b off l vs hz hb hcell hrep))
    · cases he
  · cases he
theorem all_len {l : List (List D)} {sz : Nat} (h : l.all (·.length == sz) = true) : ∀ e ∈ l,e.length = sz := fun e he => by
  have := List.all_eq_true.1 h e he
  simpa using this
theorem does_iadS {t e : TypeId} {x i : Operand} {ti : TypeInfo} (ho : o.op = .indexAddr t x i) (ht : P.underlying t = some (.slice e)) (hi : P.info? e = some ti)
    (he : aexec ρ H id (.iadS (P.cellsOf e) x i) = some ef) : Does P o ρ H ef := by
  intro w ev β Z hev hp
  simp only [aexec] at he
  have h1 := hev x (by simp [ho,Op.operands])
  have h2 := hev i (by simp [ho,Op.operands])
  have key : ∀ B off (len c : Nat) k n,ev x = .slice (some ⟨B,off,none⟩) len c → ev i = .int k n → 0 ≤ n ∧ n < len → (execOp ev o).run P w = .ok (.value (.pointer (some ⟨B,off + n.toNat * P.cellsOf e,none⟩))) w := by
    intro B off len c k n e1 e2 hn
    simp only [execOp,ho,Instr.indexAt,Sem.run_bind,e1,e2,asIntOf,Sem.run_pure,Result.andThen_ok,run_underlying ht,Sem.run_ite,if_pos hn,run_sizeOf w hi,add_none]
  split at he
  · rename_i l k n hx hn
    rw [hx] at h1; rw [hn] at h2
    split at he
    · rename_i hc
      simp only [opt1,Option.map_map,Option.map_eq_some_iff,Function.comp_apply] at he
      obtain ⟨c,hl,rfl⟩ := he
      obtain ⟨hlt,rfl⟩ := List.getElem?_eq_some_iff.1 hl
      generalize hv : ev x = v at h1
      cases h1 with
      | list0 A c => simp at hlt
      | list b off c sz _ vs hz hb hcap hs hcell hrep =>
        have hsz : sz = P.cellsOf e := by rw [← hs _ (List.getElem_mem hlt)]; exact all_len hc.2 _ (List.getElem_mem hlt)
        rw [key b off l.length c k n hv h2.val_eq.symm ⟨hc.1,by omega⟩,← hsz]
        refine post_same (.at_ b _ _ (vs n.toNat) hz hb (fun j hj => hcell n.toNat j hlt hj) fun j hj => hrep n.toNat j hlt hj)
    · cases he
  · rename_i g off len sz k n hx hn
    rw [hx] at h1; rw [hn] at h2
    split at he
    · rename_i hc
      obtain ⟨c1,c2,rfl⟩ := hc
      cases he
      generalize hv : ev x = v at h1
      cases h1 with
      | own _ _ _ _ B cap e' m hb hlt hlen hs hm =>
        rw [key B off len cap k n hv h2.val_eq.symm ⟨c1,c2⟩]
        exact post_same (.ptr _ _ B e' m hb hs)
    · cases he
  · rename_i g len sz k n hx hn
    rw [hx] at h1; rw [hn] at h2
    split at he
    · rename_i hc
      obtain ⟨c1,c2,rfl⟩ := hc
      cases he
      generalize hv : ev x = v at h1
      cases h1 with
      | vec0 A => omega
      | vec _ _ _ B cap e' m hb hlt hlen hs hm =>
        rw [key B 0 len cap k n hv h2.val_eq.symm ⟨c1,c2⟩,Nat.zero_add]
        exact post_same (.ptr _ _ B e' m hb hs)
    · cases he
  · cases he

/-! ### slices of slices -/
theorem run_bnd {w : World} {x : Option Value} {d : Option D} {n : Int} {β : Bet} {Z : Blk} (code : BoundsCode) (y : Nat) (a : Int) (hx : ∀ v dd,x = some v → d = some dd → Rep w β Z v dd) (hd : x.isSome = d.isSome) (ha : asI d n = some a) (hs : x.isSome = true) (h0 : 0 ≤ a) (h1 : a ≤ y) :
    ∃ v,x = some v ∧ (Instr.sliceBound v y code).run P w = .ok a.toNat w := by
  cases x with
  | none => cases hs
  | some v =>
    cases d with
    | none => cases hd
    | some dd =>
      have hr := hx v dd rfl rfl
      unfold asI at ha
      split at ha
      · rename_i h; cases h
      · rename_i k m h
        cases h
        cases ha
        refine ⟨v,rfl,?_⟩
        rw [← hr.val_eq]
        simp only [Instr.sliceBound,asIntOf,Sem.run_bind,Sem.run_pure,Result.andThen_ok,Sem.run_ite,if_pos (And.intro h0 h1)]
      · cases ha
theorem run_bounds {w : World} {β : Bet} {Z : Blk} {lo hi : Option Operand} {ev : Operand → Value} (sl : Bool) (len cap : Nat) (a b : Int) (hlo : ∀ x,lo = some x → Rep w β Z (ev x) (ρ x)) (hhi : ∀ x,hi = some x → Rep w β Z (ev x) (ρ x))
    (ha : asI (lo.map ρ) 0 = some a) (hb : asI (hi.map ρ) len = some b) (h0 : 0 ≤ a) (h1 : a ≤ b) (h2 : b ≤ len) (h3 : len ≤ cap) :
    (Instr.sliceBounds sl len cap (lo.map ev) (hi.map ev) none).run P w = .ok (a.toNat,b.toNat,cap) w := by
  have bnd : ∀ (x : Operand) (d : Int) (y : Nat) (n : Int) (code : BoundsCode),Rep w β Z (ev x) (ρ x) → asI ((some x).map ρ) d = some n → 0 ≤ n → n ≤ y → (Instr.sliceBound (ev x) y code).run P w = .ok n.toNat w := by
    intro x d y n code hx hn h0 h1
    obtain ⟨v,hv,hr⟩ := run_bnd (P := P) (x := some (ev x)) (d := some (ρ x)) code y n (fun v dd e1 e2 => by cases e1; cases e2; exact hx) rfl hn rfl h0 h1
    cases hv
    exact hr
  unfold Instr.sliceBounds
  cases lo with
  | none =>
    simp only [Option.map_none,asI,Option.some.injEq] at ha
    subst ha
    cases hi with
    | none =>
      simp only [Option.map_none,asI,Option.some.injEq] at hb
      subst hb
      simp
    | some y =>
      have r1 := bnd y len cap b (if sl then .sliceAcap else .sliceAlen) (hhi y rfl) hb (by omega) (by omega)
      simp only [Option.map_none,Option.map_some,Sem.run_bind,Sem.run_pure,Result.andThen_ok,r1]
      rfl
  | some x =>
    cases hi with
    | none =>
      simp only [Option.map_none,asI,Option.some.injEq] at hb
      subst hb
      have r2 := bnd x 0 len a .sliceB (hlo x rfl) ha (by omega) (by omega)
      simp only [Option.map_none,Option.map_some,Sem.run_bind,Sem.run_pure,Result.andThen_ok,Option.isSome_none,Bool.false_eq_true,if_false,r2]
      simp
    | some y =>
      have r1 := bnd y len cap b (if sl then .sliceAcap else .sliceAlen) (hhi y rfl) hb (by omega) (by omega)
      have r2 := bnd x 0 b.toNat a .sliceB (hlo x rfl) ha (by omega) (by omega)
      simp only [Option.map_some,Sem.run_bind,Sem.run_pure,Result.andThen_ok,r1,Option.isSome_none,Bool.false_eq_true,if_false,r2]
theorem does_slS {t e : TypeId} {x : Operand} {lo hi : Option Operand} {ti : TypeInfo} (ho : o.op = .slice t x lo hi none) (ht : P.underlying t = some (.slice e)) (hi' : P.info? e = some ti)
    (he : aexec ρ H id (.slS (P.cellsOf e) x lo hi) = some ef) : Does P o ρ H ef := by
  intro w ev β Z hev hp
  simp only [aexec] at he
  have hx := hev x (by simp [ho,Op.operands])
  have hlo : ∀ y,lo = some y → Rep w β Z (ev y) (ρ y) := fun y hy => hev y (by simp [ho,Op.operands,hy])
  have hhi : ∀ y,hi = some y → Rep w β Z (ev y) (ρ y) := fun y hy => hev y (by simp [ho,Op.operands,hy])
  have key : ∀ (A : Option Addr) (len cap : Nat) (a b : Int),ev x = .slice A len cap → asI (lo.map ρ) 0 = some a → asI (hi.map ρ) len = some b → 0 ≤ a → a ≤ b → b ≤ len → len ≤ cap →
      (execOp ev o).run P w = .ok (.value (.slice (if cap = a.toNat then A else A.map (·.add (a.toNat * P.cellsOf e))) (b.toNat - a.toNat) (cap - a.toNat))) w := by
    intro A len cap a b e1 ha hb h0 h1 h2 h3
    simp only [execOp,ho,Instr.sliceAt,Sem.run_bind,run_underlying ht,Result.andThen_ok,e1,Instr.slice,Option.map_none,run_bounds (P := P) (ρ := ρ) true len cap a b hlo hhi ha hb h0 h1 h2 h3,run_sizeOf w hi',Sem.run_pure]
  split at he
  · rename_i l hl
    rw [hl] at hx
    split at he
    · rename_i a b ha hb
      split at he
      · rename_i hc
        obtain ⟨h0,h1,h2,h3⟩ := hc
        cases he
        generalize hv : ev x = v at hx
        cases hx with
        | list0 A c =>
          have hb0 : b = 0 := by simp at h2; omega
          have ha0 : a = 0 := by omega
          subst hb0; subst ha0
          rw [key A 0 c 0 0 hv ha (by simpa using hb) (by omega) (by omega) (by omega) (by omega)]
          simp only [List.drop_nil,List.take_nil]
          exact post_same (.list0 _ _)
        | list bk off c sz _ vs hz hbk hcap hs hcell hrep =>
          rw [key _ l.length c a b hv ha hb h0 h1 (by omega) hcap]
          have hlen : ((l.drop a.toNat).take (b - a).toNat).length = b.toNat - a.toNat := by simp; omega
          by_cases hab : a = b
          · subst hab
            have : (l.drop a.toNat).take (a - a).toNat = [] := by simp
            rw [this,Nat.sub_self]
            exact post_same (.list0 _ _)
          · have hcne : ¬ c = a.toNat := by omega
            have hsz : sz = P.cellsOf e := by
              have hne : 0 < l.length := by omega
              rw [← hs _ (List.getElem_mem hne)]; exact all_len h3 _ (List.getElem_mem hne)
            rw [if_neg hcne,← hlen,Option.map_some,add_none,← hsz]
            refine post_same (.list bk _ _ sz _ (fun k j => vs (a.toNat + k) j) hz hbk (by rw [hlen]; omega) (fun e he => hs e (List.mem_of_mem_drop (List.mem_of_mem_take he))) (fun k j hk hj => ?_) (fun k j hk hj => ?_))
            · have hk' : a.toNat + k < l.length := by rw [hlen] at hk; omega
              have hj' : j < l[a.toNat + k].length := by simpa using hj
              have := hcell (a.toNat + k) j hk' hj'
              rw [show off + a.toNat * sz + k * sz + j = off + (a.toNat + k) * sz + j by rw [Nat.add_mul]; omega]
              exact this
            · have hk' : a.toNat + k < l.length := by rw [hlen] at hk; omega
              have hj' : j < l[a.toNat + k].length := by simpa using hj
              have := hrep (a.toNat + k) j hk' hj'
              simpa using this
      · cases he
    · cases he
  · rename_i g n sz hl
    rw [hl] at hx
    split at he
    · rename_i a b ha hb
      split at he
      · rename_i hc
        obtain ⟨h0,h1,h2,rfl,h3⟩ := hc
        generalize hv : ev x = v at hx
        cases hx with
        | vec0 A =>
          have hb0 : b = 0 := by omega
          have ha0 : a = 0 := by omega
          subst hb0; subst ha0
          rw [key A 0 0 0 0 hv ha (by simpa using hb) (by omega) (by omega) (by omega) (by omega)]
          have hln : lo = none := h3.resolve_right (by omega)
          rw [if_pos hln] at he
          cases he
          exact post_same (.vec0 _ _ _)
        | vec _ _ _ B cap e' m hB hlt hlen hs hm =>
          rw [key _ n cap a b hv ha hb h0 h1 (by omega) hlen]
          by_cases hln : lo = none
          · rw [if_pos hln] at he
            cases he
            subst hln
            simp only [Option.map_none,asI,Option.some.injEq] at ha
            subst ha
            have : (if cap = (0 : Int).toNat then (some ⟨B,0,none⟩ : Option Addr) else (some ⟨B,0,none⟩ : Option Addr).map (·.add ((0 : Int).toNat * P.cellsOf e))) = some ⟨B,0,none⟩ := by
              split
              · rfl
              · simp [add_none]
            rw [this]
            exact post_same (.vec g b.toNat _ B cap e' m hB hlt (by omega) hs hm)
          · rw [if_neg hln] at he
            cases he
            have hab : a < b := h3.resolve_left hln
            have hcne : ¬ cap = a.toNat := by omega
            rw [if_neg hcne,Option.map_some,add_none,Nat.zero_add,show b.toNat - a.toNat = (b - a).toNat by omega]
            refine post_same (.own g _ _ _ B (cap - a.toNat) e' m hB hlt (by omega) hs ?_)
            rw [← Nat.add_mul]
            rw [show a.toNat + (cap - a.toNat) = cap by omega]
            exact hm
      · cases he
    · cases he
  · cases he
theorem does_slA {t e : TypeId} {n : Nat} {x : Operand} {lo hi : Option Operand} {ti : TypeInfo} (ho : o.op = .slice t x lo hi none) (ht : P.underlying t = some (.array n e)) (hi' : P.info? e = some ti) (hn0 : n * P.cellsOf e ≠ 0)
    (he : aexec ρ H id (.slA n (P.cellsOf e) x lo hi) = some ef) : Does P o ρ H ef := by
  intro w ev β Z hev hp
  simp only [aexec] at he
  have hx := hev x (by simp [ho,Op.operands])
  have hlo : ∀ y,lo = some y → Rep w β Z (ev y) (ρ y) := fun y hy => hev y (by simp [ho,Op.operands,hy])
  have hhi : ∀ y,hi = some y → Rep w β Z (ev y) (ρ y) := fun y hy => hev y (by simp [ho,Op.operands,hy])
  split at he
  · rename_i g off hl
    rw [hl] at hx
    split at he
    · rename_i a b c ha hb hH
      split at he
      · rename_i hc
        obtain ⟨h0,h1,h2,h3,h4⟩ := hc
        cases he
        have hne : c ≠ [] := by rintro rfl; simp at h3; omega
        obtain ⟨B,cs,e',e0,n0,e1,hB,hO,hsh0⟩ := at_ptr hx (hp.objs g c (by simp) hH) hne
        have hfit := hO.fits
        have hsh : w.shape? B = some (e',cs.size) := by simp [World.shape?,hO.block hsh0]
        have : (execOp ev o).run P w = .ok (.value (.slice (some (if n = a.toNat then ⟨B,off,none⟩ else (⟨B,off,none⟩ : Addr).add (a.toNat * P.cellsOf e))) (b.toNat - a.toNat) (n - a.toNat))) w := by
          simp only [execOp,ho,Instr.sliceAt,Sem.run_bind,run_underlying ht,Result.andThen_ok,e1,Instr.sureAddr,Option.map_none,run_bounds (P := P) (ρ := ρ) false n n a b hlo hhi ha hb h0 h1 h2 (Nat.le_refl n),run_sizeOf w hi',Sem.run_pure]
        rw [this]
        have hmul : off + a.toNat * P.cellsOf e + (n - a.toNat) * P.cellsOf e ≤ cs.size := by
          rw [Nat.add_assoc,← Nat.add_mul,show a.toNat + (n - a.toNat) = n by omega]; omega
        by_cases hna : n = a.toNat
        · have hln : lo = none := h4.resolve_right (by omega)
          subst hln
          simp only [Option.map_none,asI,Option.some.injEq] at ha
          subst ha
          simp at hna
          simp [hna] at hn0
        · rw [if_neg hna,add_none,show b.toNat - a.toNat = (b - a).toNat by omega]
          exact post_same (.own g _ _ _ B (n - a.toNat) e' cs.size hB hO.lt (by omega) hsh hmul)
      · cases he
    · cases he
  · cases he
end
end Go.Proofs.YtbncpngjclabhaaGreat.Lift
namespace Go.Proofs.YtbncpngjclabhaaGreat.Lift
open Go Go.RowKit

section
variable {P : Program} {o : Oper} {ρ : Operand → D} {H : Heap} {id : Nat} {ef : Eff}

theorem nextcap_le (n c : Nat) (h : c < n) : Builtin.nextslicecap n c ≤ 2 * n := by
  unfold Builtin.nextslicecap
  have grow : ∀ (r c : Nat),256 ≤ n → c ≤ 2 * n → Builtin.growBy n r c ≤ 2 * n := by
    intro r
    induction r with
    | zero => intro c _ h; exact h
    | succ r ih =>
      intro c h1 h2
      unfold Builtin.growBy
      split
      · exact h2
      · exact ih _ h1 (by omega)
  split
  · omega
  · split
    · omega
    · exact grow 4 c (by omega) (by omega)

section
variable {w w' : World} {t tx e e2 ty : TypeId} {ti : TypeInfo}
theorem run_app_room (ht : P.underlying t = some (.slice e)) (hk : P.underlying tx = some (.slice e2)) (hi : P.info? e = some ti) (A : Option Addr) (n cap m : Nat) (xa : Option Addr) (xc : Nat) (news : Array Value)
    (hnew : (Builtin.firstCells (P.cellsOf e) m (.slice xa m xc)).run P w = .ok news w) (hroom : n + m ≤ cap) (hst : ∀ a,A = some a → (storeCells (a.add (n * P.cellsOf e)) news.toList).run P w = .ok () w') (hno : A = none → w' = w) :
    (Builtin.append_ #[t,tx] ty #[.slice A n cap,.slice xa m xc]).run P w = .ok (.slice A (n + m) cap) w' := by
  unfold Builtin.append_
  cases A with
  | none =>
    have := hno rfl
    subst this
    simp [run_underlying ht,run_underlying hk,run_sizeOf w' hi,Builtin.lenOf,hroom,hnew]
  | some a => simp [run_underlying ht,run_underlying hk,run_sizeOf w hi,Builtin.lenOf,hroom,hnew,hst a rfl]
theorem run_app_grow {z : Value} (ht : P.underlying t = some (.slice e)) (hk : P.underlying tx = some (.slice e2)) (hi : P.info? e = some ti) (hz : ti.zero = some z) (A : Option Addr) (n cap m : Nat) (xa : Option Addr) (xc : Nat) (olds news : Array Value)
    (hold : ∀ w2 : World,w2.heap = w.heap → (Builtin.firstCells (P.cellsOf e) n (.slice A n cap)).run P w2 = .ok olds w2) (hnew : ∀ w2 : World,w2.heap = w.heap → (Builtin.firstCells (P.cellsOf e) m (.slice xa m xc)).run P w2 = .ok news w2) (hroom : cap < n + m)
    (hfit : (n + m) * 2 * ti.bytes ≤ 2 ^ 48) (h62 : n + m < 2 ^ 62) :
    ∃ q,n + m ≤ q ∧ (Builtin.append_ #[t,tx] ty #[.slice A n cap,.slice xa m xc]).run P w = .ok (.slice (some ⟨w.heap.size,0,none⟩) (n + m) q) { w with heap := w.heap.push (.cells (olds ++ news ++ Builtin.zeroCells z.cells (q - (n + m))) e),drawn := w.drawn + 1 } := by
  have hn : ¬ (n + m ≤ cap) := by omega
  have hq : (Question.appendCap (n + m) cap e).forced = false := rfl
  have h1 : ¬ (Builtin.nextslicecap (n + m) cap * ti.bytes > 2 ^ 48) := by
    have := Nat.mul_le_mul_right ti.bytes (nextcap_le (n + m) cap hroom)
    rw [Nat.mul_comm 2 (n + m)] at this
    omega
  have h2 : ¬ (((n + m : Nat) : Int) > IntKind.i64.max ∧ (False ∨ ti.bytes = 0)) := by
    rintro ⟨h,_⟩
    have : IntKind.i64.max = 9223372036854775807 := by decide
    omega
  refine ⟨(Question.appendCap (n + m) cap e).cut (w.tape w.drawn (.appendCap (n + m) cap e)),by simp only [Question.cut]; omega,?_⟩
  have e1 := hold { w with drawn := w.drawn + 1 } rfl
  have e2 := hnew { w with drawn := w.drawn + 1 } rfl
  unfold Builtin.append_
  simp only [List.getElem?_toArray,List.getElem?_cons_zero,List.getElem?_cons_succ,Sem.run_bind,run_underlying ht,Result.andThen_ok,run_sizeOf w hi,run_underlying hk,Sem.run_pure,Builtin.lenOf,Bool.false_eq_true,if_false,hn,if_neg h2,if_neg h1,run_choose,hq,run_askRoom,e1,e2,zeroValue,run_typeInfo _ hi,hz,newRow,run_newObj,Bool.not_false,if_true]
end

theorem flat_get {sz : Nat} : ∀ (l : List (List D)),(∀ e ∈ l,e.length = sz) → l.flatten.length = l.length * sz ∧ ∀ i,l.flatten[i]? = if 0 < sz then (l[i / sz]?).bind (·[i % sz]?) else none
  | [],_ => ⟨by simp,fun i => by simp⟩
  | x :: l,h => by
    obtain ⟨h1,h2⟩ := flat_get l (fun e he => h e (List.mem_cons_of_mem _ he))
    have hx := h x (List.mem_cons_self ..)
    refine ⟨by simp [h1,hx,Nat.add_mul]; omega,fun i => ?_⟩
    rw [List.flatten_cons,List.getElem?_append,hx]
    by_cases hs : 0 < sz
    · rw [if_pos hs]
      by_cases hi : i < sz
      · rw [if_pos hi,Nat.div_eq_of_lt hi,Nat.mod_eq_of_lt hi]
        rfl
      · rw [if_neg hi,h2,if_pos hs]
        have e1 : i / sz = (i - sz) / sz + 1 := by
          rw [← Nat.add_div_right _ hs]; congr 1; omega
        have e2 : (i - sz) % sz = i % sz := by
          rw [← Nat.mod_eq_sub_mod (by omega)]
        rw [e1,e2]
        simp
    · have : sz = 0 := by omega
      subst this
      rw [if_neg (by omega),if_neg (by omega),h2,if_neg (by omega)]
theorem rep_range {w : World} {β : Bet} {Z : Blk} (f : Nat → Value) (n : Nat) (c : List D) (hl : c.length = n) (hr : ∀ i (h : i < c.length),Rep w β Z (f i) c[i]) : RepL w β Z ((List.range n).map f).toArray c := by
  refine ⟨by simp [hl],fun i hi => ?_⟩
  have hi' : i < n := hl ▸ hi
  rw [show (((List.range n).map f).toArray).getD i undef = f i by simp [hi']]
  exact hr i hi
theorem first_zero {sz : Nat} (A : Option Addr) (c : Nat) (w2 : World) : (Builtin.firstCells sz 0 (.slice A 0 c)).run P w2 = .ok #[] w2 := by
  cases A <;> simp [Builtin.firstCells,loadCells,loadCellsFrom]
theorem elems_sound {w : World} {β : Bet} {Z : Blk} {v : Value} {d : D} {sz m : Nat} {c : List D} {rd : List Nat} (h : Rep w β Z v d) (he : elems H sz d = some (m,c,rd)) (ho : ∀ g c,g ∈ rd → H g = some c → Holds w β Z g c) :
    ∃ A cap cs,v = .slice A m cap ∧ RepL w β Z cs c ∧ c.length = m * sz ∧ ∀ w2 : World,w2.heap = w.heap → (Builtin.firstCells sz m v).run P w2 = .ok cs w2 := by
  have cell2 : ∀ (w2 : World),w2.heap = w.heap → ∀ a,w2.cell? a = w.cell? a := fun w2 h a => by simp only [World.cell?,h]
  have hnil : RepL w β Z #[] [] := ⟨rfl,fun i hi => by simp at hi⟩
  have obj : ∀ (B off n : Nat) (c0 : List D) (cs0 : Array Value) (e : TypeId) (g : Nat),ObjRep w β Z g c0 B cs0 e → (∃ e' n',w.shape? B = some (e',n')) → off + n ≤ c0.length → ∃ cs,RepL w β Z cs ((c0.drop off).take n) ∧ ∀ w2 : World,w2.heap = w.heap → (loadCells ⟨B,off,none⟩ n).run P w2 = .ok cs w2 := by
    rintro B off n c0 cs0 e g hO ⟨e',n',hsh⟩ hle
    refine ⟨((List.range n).map fun j => cs0.getD (off + j) undef).toArray,rep_range _ _ _ (by simp; omega) (fun i hi => ?_),fun w2 h2 => ?_⟩
    · have hi' : off + i < c0.length := by simp at hi; omega
      simp only [List.getElem_take,List.getElem_drop]
      exact hO.rep (off + i) hi'
    · exact run_loads w2 B off n _ fun j hj => by rw [cell2 w2 h2]; exact hO.cell hsh (off + j) (by omega)
  unfold elems at he
  split at he
  · cases he
    have := h.val_eq
    subst this
    exact ⟨none,0, #[],rfl,hnil,by simp,fun w2 _ => first_zero none 0 w2⟩
  · cases he
    cases h with
    | cap0 A => exact ⟨A,0, #[],rfl,hnil,by simp,fun w2 _ => first_zero A 0 w2⟩
  · rename_i l
    split at he
    · rename_i hall
      cases he
      have hal := all_len hall
      obtain ⟨f1,f2⟩ := flat_get l hal
      cases h with
      | list0 A c => exact ⟨A,c, #[],rfl,hnil,by simp,fun w2 _ => first_zero A c w2⟩
      | list b off cp sz' _ vs hz hb hcap hs hcell hrep =>
        have hsz : ∀ k (hk : k < l.length),sz' = sz ∧ l[k].length = sz := fun k hk => ⟨by rw [← hs _ (List.getElem_mem hk)]; exact hal _ (List.getElem_mem hk),hal _ (List.getElem_mem hk)⟩
        have idx : ∀ i,i < l.length * sz → 0 < sz ∧ i / sz < l.length ∧ i % sz < sz ∧ i / sz * sz + i % sz = i := fun i hi => by
          have h0 : 0 < sz := by
            rcases Nat.eq_zero_or_pos sz with h | h
            · subst h; simp at hi
            · exact h
          exact ⟨h0,(Nat.div_lt_iff_lt_mul h0).2 hi,Nat.mod_lt _ h0,Nat.div_add_mod' i sz⟩
        refine ⟨some ⟨b,off,none⟩,cp,((List.range (l.length * sz)).map fun i => vs (i / sz) (i % sz)).toArray,rfl,rep_range _ _ _ f1 (fun i hi => ?_),f1,fun w2 h2 => ?_⟩
        · rw [f1] at hi
          obtain ⟨h0,h1,h3,h4⟩ := idx i hi
          have hj : i % sz < l[i / sz].length := by rw [(hsz _ h1).2]; exact h3
          have e1 := f2 i
          rw [if_pos h0,List.getElem?_eq_getElem h1,Option.bind_some,List.getElem?_eq_getElem hj,List.getElem?_eq_getElem (by rw [f1]; exact hi)] at e1
          rw [Option.some.inj e1]
          exact (hrep _ _ h1 hj).up
        · refine run_loads w2 b off _ _ fun i hi => ?_
          obtain ⟨h0,h1,h3,h4⟩ := idx i hi
          have hj : i % sz < l[i / sz].length := by rw [(hsz _ h1).2]; exact h3
          have := hcell _ _ h1 hj
          rw [(hsz _ h1).1,Nat.add_assoc,h4] at this
          rw [cell2 w2 h2]
          exact this
    · cases he
  · rename_i g off len sz'
    split at he
    · rename_i c0 hc0
      split at he
      · rename_i hc
        obtain ⟨rfl,hle⟩ := hc
        cases he
        cases h with
        | own _ _ _ _ B cap e n hB hlt hlen hs hn =>
          obtain ⟨cs0,e',hO⟩ := (ho g c0 (by simp) hc0).real hB
          obtain ⟨cs,h1,h2⟩ := obj B off (m * _) c0 cs0 e' g hO ⟨_,_,hs⟩ hle
          exact ⟨_,cap,cs,rfl,h1,by simp; omega,h2⟩
      · cases he
    · cases he
  · rename_i g len sz'
    split at he
    · rename_i c0 hc0
      split at he
      · rename_i hc
        obtain ⟨rfl,hle⟩ := hc
        cases he
        cases h with
        | vec0 A => exact ⟨A,0, #[],rfl,by simpa using hnil,by simp,fun w2 _ => first_zero A 0 w2⟩
        | vec _ _ _ B cap e n hB hlt hlen hs hn =>
          obtain ⟨cs0,e',hO⟩ := (ho g c0 (by simp) hc0).real hB
          obtain ⟨cs,h1,h2⟩ := obj B 0 (m * _) c0 cs0 e' g hO ⟨_,_,hs⟩ (by rw [Nat.zero_add]; exact hle)
          exact ⟨_,cap,cs,rfl,by simpa using h1,by simp; omega,h2⟩
      · cases he
    · cases he
  · cases he
theorem base_sound {w : World} {β : Bet} {Z : Blk} {v : Value} {d : D} {sz n : Nat} {c : List D} {ks : List Nat} (h : Rep w β Z v d) (he : base H sz d = some (n,c,ks)) (ho : ∀ g c,g ∈ ks → H g = some c → Holds w β Z g c) :
    c.length = n * sz ∧ (∀ g ∈ ks, ∃ c0,H g = some c0) ∧ ((∃ A,v = .slice A 0 0 ∧ n = 0) ∨
      ∃ g c0 B cs e cap m,ks = [g] ∧ H g = some c0 ∧ ObjRep w β Z g c0 B cs e ∧ v = .slice (some ⟨B,0,none⟩) n cap ∧ n ≤ cap ∧ w.shape? B = some (e,m) ∧ cap * sz ≤ m ∧ n * sz ≤ c0.length ∧ c = c0.take (n * sz)) := by
  unfold base at he
  split at he
  · cases he
    exact ⟨by simp,by simp,.inl ⟨none,h.val_eq.symm,rfl⟩⟩
  · cases he
    cases h with
    | cap0 A => exact ⟨by simp,by simp,.inl ⟨A,rfl,rfl⟩⟩
  · rename_i g off len sz'
    split at he
    · rename_i c0 hc0
      split at he
      · rename_i hc
        obtain ⟨rfl,rfl,hle⟩ := hc
        cases he
        cases h with
        | own _ _ _ _ B cap e m hB hlt hlen hs hm =>
          obtain ⟨cs0,e',hO⟩ := (ho g c0 (by simp) hc0).real hB
          have : e = e' := by have hs' := hs; simp [World.shape?,hO.block hs] at hs'; exact hs'.1.symm
          subst this
          exact ⟨by simp; omega,fun g' hg' => by simp at hg'; exact ⟨c0,hg' ▸ hc0⟩,.inr ⟨g,c0,B,cs0,e,cap,m,rfl,hc0,hO,rfl,hlen,hs,by omega,hle,rfl⟩⟩
      · cases he
    · cases he
  · rename_i g len sz'
    split at he
    · rename_i c0 hc0
      split at he
      · rename_i hc
        obtain ⟨rfl,hle⟩ := hc
        cases he
        have hk : ∀ g' ∈ [g], ∃ c0,H g' = some c0 := fun g' hg' => by simp at hg'; exact ⟨c0,hg' ▸ hc0⟩
        cases h with
        | vec0 A => exact ⟨by simp,hk,.inl ⟨A,rfl,rfl⟩⟩
        | vec _ _ _ B cap e m hB hlt hlen hs hm =>
          obtain ⟨cs0,e',hO⟩ := (ho g c0 (by simp) hc0).real hB
          have : e = e' := by have hs' := hs; simp [World.shape?,hO.block hs] at hs'; exact hs'.1.symm
          subst this
          exact ⟨by simp; omega,hk,.inr ⟨g,c0,B,cs0,e,cap,m,rfl,hc0,hO,rfl,hlen,hs,hm,hle,rfl⟩⟩
      · cases he
    · cases he
  · cases he
end
end Go.Proofs.YtbncpngjclabhaaGreat.Lift
namespace Go.Proofs.YtbncpngjclabhaaGreat.Lift
open Go Go.RowKit

section
variable {P : Program} {o : Oper} {ρ : Operand → D} {H : Heap} {id : Nat} {ef : Eff}
theorem getD_append_left (a b : Array Value) (i : Nat) (h : i < a.size) : (a ++ b).getD i undef = a.getD i undef := by
  have h2 : i < (a ++ b).size := by simp; omega
  rw [Array.getD_eq_getD_getElem?,Array.getD_eq_getD_getElem?,Array.getElem?_append_left h]
theorem getD_append_right (a b : Array Value) (i : Nat) (h : a.size ≤ i) : (a ++ b).getD i undef = b.getD (i - a.size) undef := by
  rw [Array.getD_eq_getD_getElem?,Array.getD_eq_getD_getElem?,Array.getElem?_append_right h]
theorem repL_app {w : World} {β : Bet} {Z : Blk} {a b : Array Value} {c c' : List D} (h : RepL w β Z a c) (h' : RepL w β Z b c') : RepL w β Z (a ++ b) (c ++ c') := by
  refine ⟨by simp [h.1,h'.1],fun i hi => ?_⟩
  by_cases h1 : i < c.length
  · rw [getD_append_left _ _ _ (by rw [h.1]; exact h1),List.getElem_append_left h1]
    exact h.2 i h1
  · rw [getD_append_right _ _ _ (by rw [h.1]; omega),List.getElem_append_right (by omega)]
    have := h'.2 (i - c.length) (by simp at hi; omega)
    simpa [h.1] using this
theorem does_app {t tx e e2 : TypeId} {x y : Operand} {ti : TypeInfo} {z : Value} (hop : o.op = .call ⟨.builtin .append, #[x,y], #[t,tx]⟩) (ht : P.underlying t = some (.slice e)) (hk : P.underlying tx = some (.slice e2)) (hi : P.info? e = some ti) (hz : ti.zero = some z) (hzc : z.cells.size = P.cellsOf e)
    (he : aexec ρ H id (.app (P.cellsOf e) ti.bytes x y) = some ef) : Does P o ρ H ef := by
  intro w ev β Z hev hp
  simp only [aexec] at he
  split at he
  · rename_i n c ks m c' rd hb hel
    split at he
    · rename_i hcond
      obtain ⟨hfit,h62,hid,hleaf⟩ := hcond
      cases he
      have hmem : id ∈ (⟨.vec id (n + m) (P.cellsOf e),rd,ups ks id (c ++ c')⟩ : Eff).ids := by unfold Eff.ids; rw [ups_ids]; simp
      obtain ⟨hn,hβ⟩ := freshOf hp hmem hid
      have hx := hev x (by simp [hop,Op.operands,Call.operands])
      have hy := hev y (by simp [hop,Op.operands,Call.operands])
      have hkm : ∀ g,g ∈ ks → g ∈ (⟨.vec id (n + m) (P.cellsOf e),rd,ups ks id (c ++ c')⟩ : Eff).ids := fun g hg => by unfold Eff.ids; rw [ups_ids]; simp [hg]
      obtain ⟨b1,b2,b3⟩ := base_sound hx hb (fun g c hg hc => hp.objs g c (.inr (hkm g hg)) hc)
      obtain ⟨xa,xc,news,hyv,hnr,hnl,hnw⟩ := elems_sound hy hel (fun g c hg hc => hp.objs g c (.inl hg) hc)
      have hidk : id ∉ ks := fun h => by
        obtain ⟨c0,h0⟩ := b2 id h
        rw [hn] at h0; cases h0
      have hkz : ∀ g ∈ ks, ∀ b, β g = some b → Z b := fun g hg b hb' => by
        obtain ⟨c0,h0⟩ := b2 g hg
        obtain ⟨cs,e',hO⟩ := (hp.objs g c0 (.inr (hkm g hg)) h0).real hb'
        exact hO.ours
      have run : ∀ A cap v w',ev x = .slice A n cap → (Builtin.append_ #[t,tx] o.type #[.slice A n cap,.slice xa m xc]).run P w = .ok v w' → (execOp ev o).run P w = .ok (.value v) w' := by
        intro A cap v w' e1 hr
        simp only [execOp,hop,resolve,invoke,builtin,Sem.run_bind,Sem.run_pure,Result.andThen_ok]
        rw [show (#[x,y].map ev) = #[ev x,ev y] by simp,e1,hyv,hr]
        rfl
      -- a new block
      have grows : ∀ A cap olds,ev x = .slice A n cap → cap < n + m → RepL w β Z olds c → (∀ w2 : World,w2.heap = w.heap → (Builtin.firstCells (P.cellsOf e) n (.slice A n cap)).run P w2 = .ok olds w2) → NextPost P ((execOp ev o).run P w) (Post w β Z H ⟨.vec id (n + m) (P.cellsOf e),rd,ups ks id (c ++ c')⟩) := by
        intro A cap olds e1 hg hor how
        obtain ⟨q,hq,hr⟩ := run_app_grow (ty := o.type) ht hk hi hz A n cap m xa xc olds news how (hyv ▸ hnw) hg hfit h62
        rw [run A cap _ _ e1 hr]
        have happ := repL_app hor hnr
        have hsz : (olds ++ news ++ Builtin.zeroCells z.cells (q - (n + m))).size = q * P.cellsOf e := by
          have hos := hor.1
          have hns := hnr.1
          simp only [Array.size_append,Builtin.zeroCells,Array.size_map,Array.size_range,hzc,hos,hns,b1,hnl]
          rw [← Nat.add_mul,← Nat.add_mul]
          congr 1
          omega
        refine post_new hidk hn hβ hkz ?_ (fun i hi' => ?_) _ (fun w' β' Z' hb' hs hsh => .vec id _ _ _ q e _ hb' (by omega) hq hsh (by rw [hsz]; exact Nat.le_refl _))
        · have := happ.1; rw [Array.size_append,this]; omega
        · rw [getD_append_left _ _ _ (by rw [happ.1]; exact hi')]
          exact happ.2 i hi'
      rcases b3 with ⟨A,hxv,hn0⟩ | ⟨g,c0,B,cs,e',cap,mm,hks,hg0,hO,hxv,hcap,hsh,hmm,hle,hc⟩
      · -- nothing there
        subst hn0
        by_cases hm : m = 0
        · subst hm
          have hcn : c = [] := List.length_eq_zero_iff.1 (by rw [b1]; simp)
          have hcn' : c' = [] := List.length_eq_zero_iff.1 (by rw [hnl]; simp)
          have hnews : news = #[] := by have := hnr.1; rw [hcn'] at this; exact Array.size_eq_zero_iff.1 (by simpa using this)
          have hr := run_app_room (ty := o.type) (w' := w) ht hk hi A 0 0 0 xa xc news (hyv ▸ hnw w rfl) (by omega) (fun a ha => by subst hnews; rfl) (fun _ => rfl)
          rw [run A 0 _ _ hxv hr]
          subst hcn; subst hcn'
          exact post_one (Bo := none) hidk hn hβ hkz (Fr.refl _ w) (fun B h => by cases h) (.vec0 A id _) (.inl ⟨rfl,setB_id⟩)
        · have hcn : c = [] := List.length_eq_zero_iff.1 (by rw [b1]; simp)
          refine grows A 0 #[] hxv (by omega) ⟨by rw [hcn]; rfl,fun i hi' => ?_⟩ (fun w2 _ => first_zero A 0 w2)
          rw [hcn] at hi'
          simp at hi'
      · by_cases hroom : n + m ≤ cap
        · -- in place
          have hnsz := hnr.1
          have hlv : ∀ u ∈ news.toList,(∀ a,u ≠ .agg a) ∧ (∀ a,u ≠ .tuple a) := by
            intro u hu
            obtain ⟨i,hi',rfl⟩ := List.getElem_of_mem hu
            have hi2 : i < news.size := by simpa using hi'
            have hi3 : i < c'.length := by omega
            have := hnr.2 i hi3
            have hl := List.all_eq_true.1 hleaf _ (List.getElem_mem hi3)
            rw [show news.getD i undef = news[i] by simp [hi2]] at this
            simpa using this.leaf hl
          have hmm' : (n + m) * P.cellsOf e ≤ cs.size := by
            have h1 : mm = cs.size := by have hsh' := hsh; simp [World.shape?,hO.block hsh] at hsh'; exact hsh'.symm
            have := Nat.mul_le_mul_right (P.cellsOf e) hroom
            omega
          rw [Nat.add_mul] at hmm'
          obtain ⟨w',cs',hr,hf,hb',hsz,hgt⟩ := run_stores (P := P) B e' (n * P.cellsOf e) news.toList 0 w cs (hO.block hsh) (by simp; omega) hlv
          have hra := run_app_room (ty := o.type) (w' := w') ht hk hi (some ⟨B,0,none⟩) n cap m xa xc news (hyv ▸ hnw w rfl) hroom (fun a ha => by cases ha; rw [add_none,Nat.zero_add]; exact hr) (fun h => by cases h)
          rw [run _ cap _ _ hxv hra]
          have hgk : g ∈ ks := by rw [hks]; simp
          have hwr : Wr H ⟨.vec id (n + m) (P.cellsOf e),rd,ups ks id (c ++ c')⟩ β B := ⟨g,c0,hkm g hgk,hg0,hO.at_⟩
          have hX : ∀ b,b < w.heap.size → b = B → Z b := fun b _ h => h ▸ hO.ours
          have hZ : ∀ b,b < w.heap.size → Zof Z (setB β id (some B)) ⟨.vec id (n + m) (P.cellsOf e),rd,ups ks id (c ++ c')⟩ b → Z b := by
            rintro b _ (h | ⟨g',hg',hb2⟩)
            · exact h
            · by_cases h3 : g' = id
              · subst h3; rw [setB_id] at hb2; cases hb2; exact hO.ours
              · have : g' ∈ ks := by unfold Eff.ids at hg'; rw [ups_ids] at hg'; simpa [h3] using hg'
                exact hkz g' this b (by simpa [setB,h3] using hb2)
          refine post_one (Bo := some B) hidk hn hβ hkz (hf.mono fun b _ h => h ▸ hwr) (fun B' h => by cases h; exact .inr ⟨hwr,hO.ours⟩) ?_ ?_
          · refine .vec id _ _ B cap e' mm setB_id (Nat.lt_of_lt_of_le hO.lt hf.size) hroom ?_ ‹_›
            rw [hf.shp B hO.lt]; exact hsh
          · refine .inr ⟨B,cs',e',setB_id,.inr ⟨id,hmem,setB_id⟩,.inl hb',?_,fun i hi' => ?_⟩
            · rw [hsz]; simp only [List.length_append,b1,hnl]; omega
            · rw [hgt]
              have hlen : (c ++ c').length = n * P.cellsOf e + m * P.cellsOf e := by simp [b1,hnl]
              by_cases h1 : i < c.length
              · rw [if_neg (by omega),List.getElem_append_left h1]
                have h2 : i < c0.length := by omega
                have := (hO.rep i h2).mono hf hX (setB_ext (B := some B) hβ) hZ
                subst hc
                simpa using this
              · rw [if_pos (by simp; omega),List.getElem_append_right (by omega)]
                have h2 : i - c.length < c'.length := by simp at hi'; omega
                have := (hnr.2 (i - c.length) h2).mono hf hX (setB_ext (B := some B) hβ) hZ
                have e4 : news.toList.getD (i - (n * P.cellsOf e + 0)) undef = news.getD (i - c.length) undef := by rw [b1]; simp
                rw [e4]
                exact this
        · -- grown
          refine grows (some ⟨B,0,none⟩) cap ((List.range (n * P.cellsOf e)).map fun j => cs.getD j undef).toArray hxv (by omega) (rep_range _ _ _ b1 fun i hi' => ?_) (fun w2 h2 => ?_)
          · have h2 : i < c0.length := by omega
            have := hO.rep i h2
            subst hc
            simpa using this
          · have := run_loads (P := P) w2 B 0 (n * P.cellsOf e) (fun j => cs.getD j undef) (fun j hj => by
              have := hO.cell hsh j (by omega)
              rw [Nat.zero_add]
              simp only [World.cell?,h2] at this ⊢
              exact this)
            simpa [Builtin.firstCells] using this
    · cases he
  · cases he
theorem repl_get {z : List D} : ∀ (n i : Nat) (h : i < (List.replicate n z).flatten.length) (hm : i % z.length < z.length),(List.replicate n z).flatten[i] = z[i % z.length]
  | 0,i,h,_ => by simp at h
  | n + 1,i,h,hm => by
    have hs : (List.replicate (n + 1) z).flatten = z ++ (List.replicate n z).flatten := by simp [List.replicate_succ]
    have key : ∀ h',(z ++ (List.replicate n z).flatten)[i]'h' = z[i % z.length] := by
      intro h'
      by_cases hi : i < z.length
      · rw [List.getElem_append_left hi]
        congr 1
        rw [Nat.mod_eq_of_lt hi]
      · rw [List.getElem_append_right (by omega)]
        have e2 : (i - z.length) % z.length = i % z.length := by rw [← Nat.mod_eq_sub_mod (by omega)]
        rw [repl_get n (i - z.length) _ (by rw [e2]; exact hm)]
        congr 1
    have h2 := key (by rw [← hs]; exact h)
    simp only [hs]
    exact h2
theorem does_mksl {t e : TypeId} {l c : Operand} {ti : TypeInfo} {z : Value} (ho : o.op = .makeSlice t l c) (ht : P.underlying t = some (.slice e)) (hi : P.info? e = some ti) (hz : ti.zero = some z) (hzc : z.cells.size = P.cellsOf e)
    (he : aexec ρ H id (.mksl (P.cellsOf e) ti.bytes (z.cells.toList.map .val) l c) = some ef) : Does P o ρ H ef := by
  intro w ev β Z hev hp
  simp only [aexec] at he
  split at he
  · rename_i k a k' b hl hc
    split at he
    · rename_i hcond
      obtain ⟨rfl,h0,hfit,h62,hid⟩ := hcond
      cases he
      obtain ⟨hn,hβ⟩ := freshOf hp (g := id) (by simp [Eff.ids]) hid
      have h1 := hev l (by simp [ho,Op.operands])
      have h2 := hev c (by simp [ho,Op.operands])
      rw [hl] at h1; rw [hc] at h2
      have hw : IntKind.i64.wrap a = a := IntWalk.i64_in a (by omega)
      have hbytes : ¬ ((ti.bytes : Int) * a > 2 ^ 48) := by rw [Int.mul_comm]; omega
      have hlt : ¬ (a < 0) := by omega
      have hb2 : ¬ (281474976710656 < (ti.bytes : Int) * a) := by rw [Int.mul_comm]; omega
      have hzcs : (a.toNat * P.cellsOf e = 0 → (Array.range (a.toNat * P.cellsOf e)).map ((#[] : Array Value)[· % (#[] : Array Value).size]!) = (Array.range (a.toNat * P.cellsOf e)).map (z.cells[· % z.cells.size]!)) := fun h0 => by rw [h0]; simp
      have : (execOp ev o).run P w = .ok (.value (.slice (some ⟨w.heap.size,0,none⟩) a.toNat a.toNat)) { w with heap := w.heap.push (.cells ((Array.range (a.toNat * P.cellsOf e)).map (z.cells[· % z.cells.size]!)) e) } := by
        simp only [execOp,ho,Instr.makeSlice,Sem.run_bind,run_underlying ht,Result.andThen_ok,← h1.val_eq,← h2.val_eq,asInt,asIntOf,Sem.run_pure,run_typeInfo w hi,hw]
        by_cases hz0 : a.toNat * P.cellsOf e = 0
        · simp [hb2,hlt,run_askRoom,run_sizeOf w hi,hz0,newRow,show Array.range 0 = #[] from rfl]
        · simp [hb2,hlt,run_askRoom,run_sizeOf w hi,hz0,newRow,zeroValue,run_typeInfo w hi,hz]
      rw [this]
      have hlen : (List.replicate a.toNat (z.cells.toList.map D.val)).flatten.length = a.toNat * P.cellsOf e := by simp [hzc]
      refine post_new (kills := []) (by simp) hn hβ (by simp) (by rw [hlen]; simp) (fun i hi' => ?_) w.drawn (fun w' β' Z' hb' hsz hsh => .vec id _ _ _ a.toNat e _ hb' (by omega) (Nat.le_refl _) hsh (by simp))
      rw [hlen] at hi'
      have hpos : 0 < z.cells.size := by
        rw [hzc]
        rcases Nat.eq_zero_or_pos (P.cellsOf e) with h | h
        · rw [h] at hi'; simp at hi'
        · exact h
      have hml : i % (z.cells.toList.map D.val).length < (z.cells.toList.map D.val).length := Nat.mod_lt _ (by simpa using hpos)
      rw [repl_get _ _ _ hml]
      have hm2 : i % z.cells.size < z.cells.size := Nat.mod_lt _ hpos
      simp [hi',hm2]
      exact .val _
    · cases he
  · cases he
end
end Go.Proofs.YtbncpngjclabhaaGreat.Lift
namespace Go.Proofs.YtbncpngjclabhaaGreat.Lift
open Go Go.RowKit

def leafFs (P : Program) (g : TypeId → Option (List Bool)) : List Field → Nat → Option (List Bool)
  | [],_ => some []
  | f :: fs,o => match g f.type,leafFs P g fs (o + P.cellsOf f.type) with
    | some a,some b => if f.offset = o ∧ f.name ≠ "_" ∧ a.length = P.cellsOf f.type then some (a ++ b) else none
    | _,_ => none
def leafB (P : Program) : Nat → TypeId → Option (List Bool)
  | 0,_ => none
  | m + 1,t => match P.underlying t with
    | some .bool => some [true]
    | some (.int _) => some [false]
    | some (.array n e) => match leafB P m e with
      | some l => if l.length = P.cellsOf e then some (List.replicate n l).flatten else none
      | none => none
    | some (.struct fs) => if P.stoodInHeld t = true then none else leafFs P (leafB P m) fs.toList 0
    | _ => none

theorem eqCells_app : ∀ {a a' b b' : List D} {r : Bool},a.length = a'.length → eqCells (a ++ b) (a' ++ b') = some r → ∃ x y,eqCells a a' = some x ∧ eqCells b b' = some y ∧ r = (x && y)
  | [],[],b,b',r,_,h => ⟨true,r,rfl,h,by simp⟩
  | [],_ :: _,_,_,_,h,_ => by simp at h
  | _ :: _,[],_,_,_,h,_ => by simp at h
  | x :: xs,y :: ys,b,b',r,hl,h => by
    simp only [List.cons_append,eqCells] at h
    split at h
    · rename_i p q h1 h2
      cases h
      obtain ⟨u,v,h3,h4,rfl⟩ := eqCells_app (by simpa using hl) h2
      exact ⟨p && u,v,by simp [eqCells,h1,h3],h4,by cases p <;> simp⟩
    · cases h
theorem eqCells_len : ∀ {a b : List D} {r : Bool},eqCells a b = some r → a.length = b.length ∧ a.map isB = b.map isB
  | [],[],_,_ => ⟨rfl,rfl⟩
  | [],_ :: _,_,h => by simp [eqCells] at h
  | _ :: _,[],_,h => by simp [eqCells] at h
  | x :: xs,y :: ys,r,h => by
    simp only [eqCells] at h
    split at h
    · rename_i p q h1 h2
      obtain ⟨h3,h4⟩ := eqCells_len h2
      refine ⟨by simp [h3],?_⟩
      simp only [List.map_cons,h4,List.cons.injEq,and_true]
      unfold scalarEq at h1
      split at h1 <;> simp_all [isB]
    · cases h

section
variable {P : Program} {w : World} {β : Bet} {Z : Blk}
theorem part_val {t : TypeId} {td : TypeDesc} {ti : TypeInfo} {cs : Array Value} {c : List D} {off : Nat} (hu : P.underlying t = some td) (hi : P.info? t = some ti) (h : RepL w β Z cs c) (hl : off + P.cellsOf t ≤ c.length) (h1 : aggT td = false → P.cellsOf t = 1) :
    ∃ v,(part t cs off).run P w = .ok v w ∧ ((aggT td = true ∧ ∃ vs,v = .agg vs ∧ RepL w β Z vs ((c.drop off).take (P.cellsOf t))) ∨ (aggT td = false ∧ ∃ d,(c.drop off).take (P.cellsOf t) = [d] ∧ Rep w β Z v d)) := by
  cases hna : aggT td with
  | true =>
    refine ⟨_,part_many hu hna hi,.inl ⟨rfl,_,rfl,?_⟩⟩
    have := rep_extract h hl
    cases this with
    | agg _ _ a b => exact ⟨a,b⟩
  | false =>
    have hc := h1 hna
    have hlt : off < c.length := by omega
    refine ⟨_,part_one hu hna (by rw [h.1]; exact hlt),.inr ⟨rfl,c[off],?_,h.2 off hlt⟩⟩
    rw [hc]
    apply List.ext_getElem
    · simp; omega
    · intro i h2 h3
      have : i = 0 := by simp at h3; omega
      subst this
      simp
def EqOk (P : Program) (m : Nat) : Prop := ∀ (d : Nat) (t : TypeId) (ks : List Bool) (td : TypeDesc),leafB P m t = some ks → P.underlying t = some td →
  (aggT td = false → ∃ b,ks = [b]) ∧
  ∀ (w : World) (β : Bet) (Z : Blk) (c c' : List D) (r : Bool),c.map isB = ks → eqCells c c' = some r →
    (aggT td = true → ∀ xs ys : Array Value,RepL w β Z xs c → RepL w β Z ys c' → (Op.equalIn (d + m) t (.agg xs) (.agg ys)).run P w = .ok r w) ∧
    (aggT td = false → ∀ (x y : Value) (a b : D),c = [a] → c' = [b] → Rep w β Z x a → Rep w β Z y b → (Op.equalIn (d + m) t x y).run P w = .ok r w)
theorem leafB_under {m : Nat} {t : TypeId} {ks : List Bool} (h : leafB P m t = some ks) : ∃ td,P.underlying t = some td := by
  cases m with
  | zero => simp [leafB] at h
  | succ m =>
    cases hu : P.underlying t with
    | none => simp [leafB,hu] at h
    | some td => exact ⟨td,rfl⟩
theorem step_part {m d : Nat} (ih : EqOk P m) {t : TypeId} {ks : List Bool} (hk : leafB P m t = some ks) (hkl : ks.length = P.cellsOf t) {xs ys : Array Value} {c c' : List D} {off : Nat} {r : Bool} (hx : RepL w β Z xs c) (hy : RepL w β Z ys c')
    (hl : off + P.cellsOf t ≤ c.length) (hll : c.length = c'.length) (hks : ((c.drop off).take (P.cellsOf t)).map isB = ks) (he : eqCells ((c.drop off).take (P.cellsOf t)) ((c'.drop off).take (P.cellsOf t)) = some r) :
    ∃ a b,(part t xs off).run P w = .ok a w ∧ (part t ys off).run P w = .ok b w ∧ (Op.equalIn (d + m) t a b).run P w = .ok r w := by
  obtain ⟨td,hu⟩ := leafB_under hk
  obtain ⟨ti,hi⟩ := info_of_underlying hu
  obtain ⟨i1,i2⟩ := ih d t ks td hk hu
  obtain ⟨i3,i4⟩ := i2 w β Z _ _ r hks he
  have h1 : aggT td = false → P.cellsOf t = 1 := fun h => by
    obtain ⟨b,rfl⟩ := i1 h
    simpa using hkl.symm
  obtain ⟨a,ha,ha'⟩ := part_val hu hi hx hl h1
  obtain ⟨b,hb,hb'⟩ := part_val (off := off) hu hi hy (by omega) h1
  refine ⟨a,b,ha,hb,?_⟩
  rcases ha' with ⟨h2,vs,rfl,h3⟩ | ⟨h2,dd,h3,h4⟩
  · rcases hb' with ⟨_,us,rfl,h5⟩ | ⟨h6,_⟩
    · exact i3 h2 vs us h3 h5
    · rw [h2] at h6; cases h6
  · rcases hb' with ⟨h6,_⟩ | ⟨_,ee,h5,h6⟩
    · rw [h2] at h6; cases h6
    · exact i4 h2 a b dd ee h3 h5 h4 h6
theorem take_add (c : List D) (off a b : Nat) : (c.drop off).take (a + b) = (c.drop off).take a ++ (c.drop (off + a)).take b := by
  rw [List.take_add,List.drop_drop]
theorem eqFields_ok {m d : Nat} (ih : EqOk P m) {xs ys : Array Value} {c c' : List D} (hx : RepL w β Z xs c) (hy : RepL w β Z ys c') (hll : c.length = c'.length) : ∀ (fs : List Field) (o : Nat) (ks : List Bool) (r : Bool),leafFs P (leafB P m) fs o = some ks →
    o + ks.length ≤ c.length → ((c.drop o).take ks.length).map isB = ks → eqCells ((c.drop o).take ks.length) ((c'.drop o).take ks.length) = some r → (Op.eqFields (d + m) xs ys fs).run P w = .ok r w
  | [],o,ks,r,h,hl,hk,he => by
    simp only [leafFs,Option.some.injEq] at h
    subst h
    simp [eqCells] at he
    subst he
    rfl
  | f :: fs,o,ks,r,h,hl,hk,he => by
    simp only [leafFs] at h
    split at h
    · rename_i a b h1 h2
      split at h
      · rename_i hc
        obtain ⟨e1,e2,e3⟩ := hc
        cases h
        have hlen : (a ++ b).length = P.cellsOf f.type + b.length := by simp [e3]
        rw [hlen] at hl
        rw [hlen,take_add] at hk
        rw [hlen,take_add,take_add] at he
        obtain ⟨x,y,h3,h4,rfl⟩ := eqCells_app (by simp; omega) he
        rw [List.map_append] at hk
        have hk' := List.append_inj hk (by simp [e3]; omega)
        obtain ⟨u,v,p1,p2,p3⟩ := step_part (d := d) ih h1 e3 hx hy (off := o) (r := x) (by omega) hll hk'.1 h3
        have := eqFields_ok (d := d) ih hx hy hll fs _ b y h2 (by omega) hk'.2 h4
        simp only [Op.eqFields,e2,ne_eq,not_false_eq_true,if_true,Sem.run_bind,e1,p1,p2,p3,Result.andThen_ok]
        cases x
        · simp
        · simpa using this
      · cases h
    · cases h
theorem eqItems_ok {m d : Nat} (ih : EqOk P m) {e : TypeId} {l : List Bool} (hl : leafB P m e = some l) (hle : l.length = P.cellsOf e) {xs ys : Array Value} {c c' : List D} (hx : RepL w β Z xs c) (hy : RepL w β Z ys c') (hll : c.length = c'.length) : ∀ (n i : Nat) (r : Bool),
    (i + n) * P.cellsOf e ≤ c.length → ((c.drop (i * P.cellsOf e)).take (n * P.cellsOf e)).map isB = (List.replicate n l).flatten → eqCells ((c.drop (i * P.cellsOf e)).take (n * P.cellsOf e)) ((c'.drop (i * P.cellsOf e)).take (n * P.cellsOf e)) = some r →
    (Op.eqItems (d + m) e (P.cellsOf e) xs ys (List.range' i n)).run P w = .ok r w
  | 0,i,r,_,_,he => by
    simp [eqCells] at he
    subst he
    rfl
  | n + 1,i,r,hlen,hk,he => by
    have e0 : (n + 1) * P.cellsOf e = P.cellsOf e + n * P.cellsOf e := by rw [Nat.add_mul,Nat.one_mul,Nat.add_comm]
    have e1 : i * P.cellsOf e + P.cellsOf e = (i + 1) * P.cellsOf e := by rw [Nat.add_mul,Nat.one_mul]
    have e2 : (i + (n + 1)) * P.cellsOf e = i * P.cellsOf e + P.cellsOf e + n * P.cellsOf e := by rw [Nat.add_mul,e0]; omega
    rw [e0,take_add,e1] at hk
    rw [e0,take_add,take_add,e1] at he
    obtain ⟨x,y,h3,h4,rfl⟩ := eqCells_app (by simp; omega) he
    rw [List.map_append,List.replicate_succ,List.flatten_cons] at hk
    have hk' := List.append_inj hk (by simp [hle]; omega)
    obtain ⟨u,v,p1,p2,p3⟩ := step_part (d := d) ih hl hle hx hy (off := i * P.cellsOf e) (r := x) (by omega) hll hk'.1 h3
    have := eqItems_ok (d := d) ih hl hle hx hy hll n (i + 1) y (by rw [Nat.add_assoc,Nat.add_comm 1 n]; exact hlen) hk'.2 h4
    rw [List.range'_succ]
    simp only [Op.eqItems,Sem.run_bind,p1,p2,p3,Result.andThen_ok]
    cases x
    · simp
    · simpa using this
theorem eqOk : ∀ m,EqOk P m
  | 0 => fun d t ks td h => by simp [leafB] at h
  | m + 1 => by
    intro d t ks td h hu
    have ih := eqOk m
    simp only [leafB,hu] at h
    split at h
    · rename_i heq
      cases heq
      cases h
      refine ⟨fun _ => ⟨true,rfl⟩,fun w β Z c c' r hc he => ⟨fun h => by simp [aggT] at h,fun _ x y a b ha hb hx hy => ?_⟩⟩
      subst ha; subst hb
      simp only [eqCells] at he
      split at he
      · rename_i p q h1 h2
        cases h2
        cases he
        unfold scalarEq at h1
        split at h1
        · simp [isB] at hc
        · cases h1
          rw [← hx.val_eq,← hy.val_eq]
          simp [Op.equalIn,run_underlying hu]
        · cases h1
      · cases he
    · rename_i k heq
      cases heq
      cases h
      refine ⟨fun _ => ⟨false,rfl⟩,fun w β Z c c' r hc he => ⟨fun h => by simp [aggT] at h,fun _ x y a b ha hb hx hy => ?_⟩⟩
      subst ha; subst hb
      simp only [eqCells] at he
      split at he
      · rename_i p q h1 h2
        cases h2
        cases he
        unfold scalarEq at h1
        split at h1
        · split at h1
          · rename_i hk
            subst hk
            cases h1
            rw [← hx.val_eq,← hy.val_eq]
            simp [Op.equalIn,run_underlying hu]
          · cases h1
        · simp [isB] at hc
        · cases h1
      · cases he
    · rename_i n e heq
      cases heq
      split at h
      · rename_i l hl
        split at h
        · rename_i hle
          cases h
          refine ⟨fun h => by simp [aggT] at h,fun w β Z c c' r hc he => ⟨fun _ xs ys hx hy => ?_,fun h => by simp [aggT] at h⟩⟩
          obtain ⟨ti,hi⟩ := info_of_underlying (leafB_under hl).choose_spec
          have hlen : c.length = n * P.cellsOf e := by
            have := congrArg List.length hc
            simpa [hle] using this
          have hll := (eqCells_len he).1
          rw [show d + (m + 1) = (d + m) + 1 by omega,run_equalIn_array w (d + m) xs ys hu hi,List.range_eq_range']
          refine eqItems_ok ih hl hle hx hy hll n 0 r (by rw [Nat.zero_add]; omega) ?_ ?_
          · rw [Nat.zero_mul,List.drop_zero,← hlen,List.take_length]; exact hc
          · rw [Nat.zero_mul,List.drop_zero,List.drop_zero,← hlen,List.take_length,hll,List.take_length]; exact he
        · cases h
      · cases h
    · rename_i fs heq
      cases heq
      split at h
      · cases h
      · rename_i hst
        refine ⟨fun h => by simp [aggT] at h,fun w β Z c c' r hc he => ⟨fun _ xs ys hx hy => ?_,fun h => by simp [aggT] at h⟩⟩
        have hf : P.fieldsOf t = fs := by simp [Program.fieldsOf,hu]
        have hll := (eqCells_len he).1
        have hkl : ks.length = c.length := by rw [← hc]; simp
        rw [show d + (m + 1) = (d + m) + 1 by omega,run_equalIn_struct w (d + m) t xs ys (by rw [hf]; exact hu) (by simpa using hst),hf]
        refine eqFields_ok ih hx hy hll fs.toList 0 ks r h (by omega) ?_ ?_
        · rw [List.drop_zero,hkl,List.take_length]; exact hc
        · rw [List.drop_zero,List.drop_zero,hkl,List.take_length,hll,List.take_length]; exact he
    · cases h
end
section
variable {P : Program} {o : Oper} {ρ : Operand → D} {H : Heap} {id : Nat} {ef : Eff}
theorem does_eqa {t u : TypeId} {neg : Bool} {x y : Operand} {ks : List Bool} {td : TypeDesc} (ho : o.op = .binOp (if neg then .neq else .eql) t x y u) (hu : P.underlying t = some td) (hag : aggT td = true) (hk : leafB P 20 t = some ks) (hg : P.eqGuardType P.depth t = false)
    (he : aexec ρ H id (.eqa neg ks x y) = some ef) : Does P o ρ H ef := by
  intro w ev β Z hev hp
  simp only [aexec] at he
  split at he
  · rename_i hc
    obtain ⟨h1,h2,h3⟩ := hc
    simp only [Option.map_eq_some_iff] at he
    obtain ⟨b,hb,rfl⟩ := he
    obtain ⟨xs,e1,r1⟩ := agg_cells (hev x (by simp [ho,Op.operands])) h1
    obtain ⟨ys,e2,r2⟩ := agg_cells (hev y (by simp [ho,Op.operands])) h2
    have heq := ((eqOk 20 9980 t ks td hk hu).2 w β Z _ _ b h3 hb).1 hag xs ys r1 r2
    have : (execOp ev o).run P w = .ok (.value (.bool (b != neg))) w := by
      cases neg
      · simp only [execOp,ho,e1,e2,Sem.run_bind,run_eqGuard_agg w _ t x y xs ys hg,Result.andThen_ok,Bool.false_eq_true,if_false,run_eql_struct w t xs ys,heq,Sem.run_pure]
        simp
      · simp only [execOp,ho,e1,e2,Sem.run_bind,run_eqGuard_agg w _ t x y xs ys hg,Result.andThen_ok,if_true,run_neq_struct w t xs ys,heq,Sem.run_pure]
        simp
    rw [this]
    exact post_same (.val _)
  · cases he
end

/-! ### maps -/
section
variable {P : Program} {o : Oper} {ρ : Operand → D} {H : Heap} {id : Nat} {ef : Eff}
theorem getMap {w : World} {r : Nat} {es : Array MapEntry} {n : Nat} (hb : w.heap[r]? = some (.map es n)) : (getObj r).run P w = .ok (.map es n) w := by
  simp [getObj,Sem.run,hb]
theorem setMap {w : World} {r : Nat} {es : Array MapEntry} {n : Nat} (o : Obj) (hb : w.heap[r]? = some (.map es n)) : (setObj r o).run P w = .ok () { w with heap := w.heap.setIfInBounds r o } := by
  simp [setObj,Sem.run,hb]
def flatKey (P : Program) (key : TypeId) (n : Nat) : Bool := match P.underlying key with
  | some (.struct fs) => fs.toList.all fun f => (match P.underlying f.type with
    | some (.int _) => true
    | some .bool => true
    | _ => false) && decide (f.offset < n)
  | _ => false
theorem run_checkKey_flat {key : TypeId} {n : Nat} (h : flatKey P key n = true) {xs : Array Value} (hs : xs.size = n) (w : World) (em : Bool) (d : Nat) : (Instr.checkKey em (d + 2) key (.agg xs)).run P w = .ok () w := by
  unfold flatKey at h
  split at h
  · rename_i fs hu
    rw [Instr.checkKey]
    simp only [Sem.run_bind,run_underlying hu,Result.andThen_ok]
    rw [← Array.forIn_toList]
    have deep := List.all_eq_true.1 h
    clear h
    generalize fs.toList = L at deep
    induction L with
    | nil => simp
    | cons f L ih =>
      have hf := deep f (by simp)
      simp only [Bool.and_eq_true,decide_eq_true_eq] at hf
      obtain ⟨h1,h2⟩ := hf
      simp only [List.forIn_cons,Sem.run_bind]
      have ih' := ih fun g hg => deep g (by simp [hg])
      by_cases hn : f.name = "_"
      · simp only [hn,ne_eq,not_true,if_false,Sem.run_pure,Result.andThen_ok]
        exact ih'
      · have hck : ∃ a,(part f.type xs f.offset).run P w = .ok a w ∧ (Instr.checkKey em (d + 1) f.type a).run P w = .ok () w := by
          cases hu2 : P.underlying f.type with
          | none => simp [hu2] at h1
          | some td =>
            rw [hu2] at h1
            have hna : aggT td = false := by cases td <;> simp_all [aggT]
            refine ⟨_,part_one hu2 hna (by omega : f.offset < xs.size),?_⟩
            rw [Instr.checkKey]
            simp only [Sem.run_bind,run_underlying hu2,Result.andThen_ok]
            cases td <;> simp_all
        obtain ⟨a,p1,p2⟩ := hck
        simp only [hn,ne_eq,not_false_eq_true,if_true,Sem.run_bind,p1,p2,Result.andThen_ok,Sem.run_pure]
        exact ih'
  · cases h
theorem repL_self {w : World} {β : Bet} {Z : Blk} (cs : Array Value) : RepL w β Z cs (cs.toList.map .val) := ⟨by simp,fun i hi => by
  have hi' : i < cs.size := by simpa using hi
  simp only [List.getElem_map,Array.getElem_toList]
  rw [show cs.getD i undef = cs[i] by simp [hi']]
  exact .val _⟩
theorem run_findAsking {key : TypeId} {ks : List Bool} {td : TypeDesc} (hu : P.underlying key = some td) (hag : aggT td = true) (hk : leafB P 20 key = some ks) {w : World} {β : Bet} {Z : Blk} {xs : Array Value} {c : List D} (hx : RepL w β Z xs c) (hc : c.map isB = ks) :
    ∀ (es : List MapEntry) (i : Nat) (r : Option Value),mfind (es.map fun x => (x.key,x.val)) c = some r → ∃ j,(Instr.findAsking key (.agg xs) es i).run P w = .ok (r.map fun v => (j,v)) w
  | [],i,r,h => by
    cases h
    exact ⟨0,by simp [Instr.findAsking]⟩
  | e :: es,i,r,h => by
    simp only [List.map_cons,mfind] at h
    split at h
    · rename_i ys hy
      have eq : ∀ b,eqCells c (ys.toList.map .val) = some b → (Op.equal key (.agg xs) e.key).run P w = .ok b w := fun b hb => by
        rw [hy]
        exact ((eqOk 20 9980 key ks td hk hu).2 w β Z _ _ b hc hb).1 hag xs ys hx (repL_self ys)
      split at h
      · rename_i hb
        cases h
        exact ⟨i,by simp [Instr.findAsking,eq _ hb]⟩
      · rename_i hb
        obtain ⟨j,hj⟩ := run_findAsking hu hag hk hx hc es (i + 1) r h
        exact ⟨j,by simp [Instr.findAsking,eq _ hb,hj]⟩
      · cases h
    · cases h
theorem at_mp {w : World} {β : Bet} {Z : Blk} {v : Value} {g : Nat} {l : List (Value × Value)} (hv : Rep w β Z v (.mp g)) (ho : ∀ c,H g = some c → Holds w β Z g c) (hl : entsH H g = some l) :
    ∃ c B en n cs e,v = .map (some B) ∧ H g = some c ∧ β g = some B ∧ ObjRep w β Z g c B cs e ∧ w.heap[B]? = some (.map en n) ∧ l = en.toList.map fun x => (x.key,x.val) := by
  cases hv with
  | mp _ B hb hk =>
    unfold entsH at hl
    split at hl
    · rename_i c hc
      obtain ⟨cs,e,hO⟩ := (ho c hc).real hb
      obtain ⟨en,n,h1,h2⟩ := hO.map hk
      refine ⟨c,B,en,n,cs,e,rfl,hc,hb,hO,h1,?_⟩
      unfold entsC at hl
      split at hl
      · rename_i u
        have := (hO.rep 0 (by simp)).val_eq
        subst h2
        simp at this
        rw [this,unV_mp] at hl
        exact (Option.some.inj hl).symm
      · cases hl
    · cases hl
theorem rep_lift {w : World} {β : Bet} {Z : Blk} (v : Value) : Rep w β Z v (liftV v) := by
  cases v with
  | agg cs => exact .agg _ _ (repL_self (w := w) (β := β) (Z := Z) cs).1 (repL_self cs).2
  | _ => exact .val _
theorem rep_look {w : World} {β : Bet} {Z : Blk} {z : Value} (ok : Bool) (r : Option Value) : Rep w β Z (if ok then .tuple #[r.getD z,.bool r.isSome] else r.getD z) (lookD ok (liftV z) r) := by
  have tup : ∀ v b,Rep w β Z (.tuple #[v,.bool b]) (.tup [liftV v,.val (.bool b)]) := fun v b => .tup _ _ rfl fun i hi => by
    match i,hi with
    | 0,_ => exact rep_lift v
    | 1,_ => exact .val _
  cases r <;> cases ok <;> simp only [lookD,Option.getD,Option.isSome,if_true,Bool.false_eq_true,if_false]
  · exact rep_lift z
  · exact tup z false
  · exact rep_lift _
  · exact tup _ true
theorem isAggT {key : TypeId} {n : Nat} (h : flatKey P key n = true) : ∃ td,P.underlying key = some td ∧ aggT td = true := by
  unfold flatKey at h
  split at h
  · rename_i fs hu; exact ⟨_,hu,rfl⟩
  · cases h
theorem wide_of {key : TypeId} {n : Nat} (h : flatKey P key n = true) : (match P.underlying key with | some (.array _ _) | some (.struct _) => true | _ => false) = true := by
  unfold flatKey at h
  split at h
  · rename_i fs hu; rw [hu]
  · cases h
theorem does_look {t key elem : TypeId} {ks : List Bool} {ok : Bool} {m k : Operand} {ti : TypeInfo} {z : Value} (ho : o.op = .lookup t m k ok) (ht : P.underlying t = some (.map key elem)) (hfk : flatKey P key ks.length = true) (hk : leafB P 20 key = some ks)
    (hi : P.info? elem = some ti) (hz : ti.zero = some z) (he : aexec ρ H id (.look ks (liftV z) ok m k) = some ef) : Does P o ρ H ef := by
  intro w ev β Z hev hp
  simp only [aexec] at he
  have h1 := hev m (by simp [ho,Op.operands])
  have h2 := hev k (by simp [ho,Op.operands])
  split at he
  · rename_i g hm
    rw [hm] at h1
    split at he
    · rename_i l hl
      split at he
      · rename_i hc
        simp only [Option.map_eq_some_iff] at he
        obtain ⟨r,hr,rfl⟩ := he
        obtain ⟨c,B,en,n,cs,e,e1,hH,hb,hO,hblk,rfl⟩ := at_mp h1 (fun c hc => hp.objs g c (.inl (by simp)) hc) hl
        obtain ⟨xs,e2,hx⟩ := agg_cells h2 hc.1
        obtain ⟨td,hu,hag⟩ := isAggT hfk
        obtain ⟨j,hj⟩ := run_findAsking hu hag hk hx hc.2 en.toList 0 r hr
        have hsz : xs.size = ks.length := by rw [hx.1,← hc.2]; simp
        have hfind : (Instr.findKey key (.agg xs) en.toList).run P w = .ok (r.map fun v => (j,v)) w := by rw [run_findKey_eq w (wide_of hfk)]; exact hj
        have : (execOp ev o).run P w = .ok (.value (if ok then .tuple #[r.getD z,.bool r.isSome] else r.getD z)) w := by
          simp only [execOp,ho,e1,e2,Instr.lookup,Sem.run_bind,run_underlying ht,Result.andThen_ok,getMap hblk,Sem.run_pure,run_checkKey_flat hfk hsz w _ 9998,hfind]
          cases r with
          | none => simp [zeroValue,run_typeInfo w hi,hz]
          | some v => simp
        rw [this]
        exact post_same (rep_look ok r)
      · cases he
    · cases he
  · cases he
theorem valC_rep {w : World} {β : Bet} {Z : Blk} : ∀ {l : List D} {vs : List Value},valC l = some vs → l = vs.map .val
  | [],vs,h => by cases h; rfl
  | d :: l,vs,h => by
    cases d <;> simp only [valC] at h <;> try (cases h; done)
    simp only [Option.map_eq_some_iff] at h
    obtain ⟨us,h1,rfl⟩ := h
    rw [valC_rep (w := w) (β := β) (Z := Z) h1]
    rfl
theorem valV_eq {w : World} {β : Bet} {Z : Blk} {v u : Value} {d : D} (hr : Rep w β Z v d) (h : valV d = some u) : v = u := by
  cases hr with
  | val v => exact Option.some.inj h
  | agg cs l hl hr =>
    simp only [valV,Option.map_eq_some_iff] at h
    obtain ⟨vs,h1,rfl⟩ := h
    have := valC_rep (w := w) (β := β) (Z := Z) h1
    subst this
    have hl' : cs.size = vs.length := by simpa using hl
    congr 1
    apply Array.ext
    · simp; omega
    · intro i h1 h2
      have := hr i (by simp at h2 ⊢; exact h2)
      simp only [List.getElem_map] at this
      have := this.val_eq
      rw [show cs.getD i undef = cs[i] by simp [h1]] at this
      simpa using this.symm
  | _ => simp [valV] at h
theorem putObj_map_fr {w : World} {B : Nat} {en en' : Array MapEntry} {n n' : Nat} (h : w.heap[B]? = some (.map en n)) : Fr (fun b => b = B) w { w with heap := w.heap.setIfInBounds B (.map en' n') } where
  os := rfl
  tape := rfl
  output := rfl
  size := by simp
  same := fun b _ hn => by
    have hn' : ¬ B = b := Ne.symm hn
    simp [Array.getElem?_setIfInBounds_ne hn']
  knd := fun b hb => by
    by_cases hb2 : b = B
    · subst hb2
      have hlt : b < w.heap.size := hb
      have : ({ w with heap := w.heap.setIfInBounds b (.map en' n') } : World).heap[b]? = some (.map en' n') := by simp [hlt]
      simp only [kind?,this,h]
    · have hn' : ¬ B = b := Ne.symm hb2
      simp [kind?,Array.getElem?_setIfInBounds_ne hn']
theorem does_mset {t key elem : TypeId} {ks : List Bool} {m k x : Operand} (ho : o.op = .mapUpdate t m k x ∨ o.op = .insert t m k x) (ht : P.underlying t = some (.map key elem)) (hfk : flatKey P key ks.length = true) (hk : leafB P 20 key = some ks)
    (he : aexec ρ H id (.mset ks m k x) = some ef) : Does P o ρ H ef := by
  intro w ev β Z hev hp
  simp only [aexec] at he
  have hops : ∀ y,y = m ∨ y = k ∨ y = x → y ∈ o.op.operands := fun y hy => by
    rcases ho with ho | ho <;> rcases hy with rfl | rfl | rfl <;> simp [ho,Op.operands]
  have h1 := hev m (hops m (.inl rfl))
  have h2 := hev k (hops k (.inr (.inl rfl)))
  have h3 := hev x (hops x (.inr (.inr rfl)))
  split at he
  · rename_i g hm
    rw [hm] at h1
    split at he
    · rename_i l kv vv hl hkv hvv
      split at he
      · rename_i hc
        cases he
        obtain ⟨hca,hcb,hcn⟩ := hc
        have hids : g ∈ (⟨.val undef,[],[(g,some [.val (mpV (l ++ [(kv,vv)]))])]⟩ : Eff).ids := by simp [Eff.ids]
        obtain ⟨c,B,en,n,cs,e,e1,hH,hb,hO,hblk,rfl⟩ := at_mp h1 (fun c hc => hp.objs g c (.inr hids) hc) hl
        obtain ⟨xs,e2,hx⟩ := agg_cells h2 hca
        obtain ⟨td,hu,hag⟩ := isAggT hfk
        have hr : mfind (en.toList.map fun x => (x.key,x.val)) (ρ k).cells = some none := by
          unfold isNew at hcn
          split at hcn
          · assumption
          · cases hcn
        obtain ⟨j,hj⟩ := run_findAsking hu hag hk hx hcb en.toList 0 none hr
        have hsz : xs.size = ks.length := by rw [hx.1,← hcb]; simp
        have hfind : (Instr.findKey key (.agg xs) en.toList).run P w = .ok none w := by rw [run_findKey_eq w (wide_of hfk)]; exact hj
        have ekv := valV_eq h2 hkv
        have evv := valV_eq h3 hvv
        have run : (Instr.mapUpdate t (ev m) (ev k) (ev x)).run P w = .ok () { w with heap := w.heap.setIfInBounds B (.map (en.push { key := ev k,val := ev x,born := n }) (n + 1)) } := by
          simp only [Instr.mapUpdate,e1,e2,Sem.run_bind,run_underlying ht,Result.andThen_ok,getMap hblk,run_checkKey_flat hfk hsz w _ 9998,hfind,setMap _ hblk]
        have : (execOp ev o).run P w = .ok .skip { w with heap := w.heap.setIfInBounds B (.map (en.push { key := ev k,val := ev x,born := n }) (n + 1)) } := by
          rcases ho with ho | ho <;> simp only [execOp,ho,Sem.run_bind,run,Result.andThen_ok,Sem.run_pure]
        rw [this]
        have hf := putObj_map_fr (en' := en.push { key := ev k,val := ev x,born := n }) (n' := n + 1) hblk
        have hlt : B < w.heap.size := hO.lt
        have hb' : ({ w with heap := w.heap.setIfInBounds B (.map (en.push { key := ev k,val := ev x,born := n }) (n + 1)) } : World).heap[B]? = some (.map (en.push { key := ev k,val := ev x,born := n }) (n + 1)) := by simp [hlt]
        generalize ({ w with heap := w.heap.setIfInBounds B (.map (en.push { key := ev k,val := ev x,born := n }) (n + 1)) } : World) = w' at hf hb'
        have hids' : ∀ y,y ∈ (⟨.val undef,[],[(g,some [.val (mpV (en.toList.map (fun x => (x.key,x.val)) ++ [(kv,vv)]))])]⟩ : Eff).ids ↔ y = g := fun y => by simp [Eff.ids]
        have hup : ∀ y c1,y ∈ (⟨.val undef,[],[(g,some [.val (mpV (en.toList.map (fun x => (x.key,x.val)) ++ [(kv,vv)]))])]⟩ : Eff).ids → upH H [(g,some [.val (mpV (en.toList.map (fun x => (x.key,x.val)) ++ [(kv,vv)]))])] y = some c1 → y = g ∧ c1 = [.val (mpV (en.toList.map (fun x => (x.key,x.val)) ++ [(kv,vv)]))] := fun y c1 hy hc => by
          rw [hids'] at hy
          subst hy
          simp [upH] at hc
          exact ⟨rfl,hc.symm⟩
        have hZ : ∀ b,Zof Z β ⟨.val undef,[],[(g,some [.val (mpV (en.toList.map (fun x => (x.key,x.val)) ++ [(kv,vv)]))])]⟩ b ↔ Z b := fun b => by
          constructor
          · rintro (h | ⟨y,hy,hb1⟩)
            · exact h
            · rw [hids'] at hy; subst hy
              rw [hO.at_] at hb1; cases hb1
              exact hO.ours
          · exact .inl
        refine ⟨β,Ext.refl β,fun _ h => .inl h,hf.mono (fun b _ h => ⟨g,c,(hids' g).2 rfl,hH,h ▸ hO.at_⟩),.val _,fun y c1 hy hc => ?_,fun y c1 B' hy hc hb1 => ?_,fun b _ h => (hZ b).1 h,fun hzl b h => Nat.lt_of_lt_of_le (hzl b ((hZ b).1 h)) hf.size,fun y y' c1 c2 _ hy hy' _ _ _ _ => ((hids' y).1 hy).trans ((hids' y').1 hy').symm⟩
        · obtain ⟨rfl,rfl⟩ := hup y c1 hy hc
          refine .inr ⟨B, #[mpV ((en.push { key := ev k,val := ev x,born := n }).toList.map fun x => (x.key,x.val))],e,hO.at_,(hZ B).2 hO.ours,.inr ⟨_,_,hb',rfl⟩,by simp,fun i hi => ?_⟩
          obtain rfl : i = 0 := by simpa using hi
          simp only [Array.toList_push,List.map_append,List.map_cons,List.map_nil,List.getElem_cons_zero,ekv,evv]
          exact .val _
        · obtain ⟨rfl,rfl⟩ := hup y c1 hy hc
          rw [hO.at_] at hb1
          cases hb1
          exact .inr ⟨y,c,hy,hH,hO.at_⟩
      · cases he
    · cases he
  · cases he
theorem does_mkmap {t key elem : TypeId} {r : Option Operand} (ho : o.op = .makeMap t r) (ht : P.underlying t = some (.map key elem)) (he : aexec ρ H id (.mkmap r) = some ef) : Does P o ρ H ef := by
  intro w ev β Z hev hp
  simp only [aexec] at he
  split at he
  · rename_i hc
    cases he
    obtain ⟨hs,hopt⟩ := hc
    obtain ⟨hn,hβ⟩ := freshOf hp (g := id) (by simp [Eff.ids]) hs
    have : (execOp ev o).run P w = .ok (.value (.map (some w.heap.size))) { w with heap := w.heap.push (.map #[] 0) } := by
      cases r with
      | none => simp only [execOp,ho,Option.map_none,Instr.makeMap,Sem.run_bind,Sem.run_pure,run_newObj,Result.andThen_ok]
      | some y =>
        have hy := hev y (by simp [ho,Op.operands])
        simp only [Option.map_some] at hopt
        unfold optI at hopt
        split at hopt
        · rename_i hh; cases hh
        · rename_i k i hh
          rw [Option.some.inj hh] at hy
          simp only [execOp,ho,Option.map_some,Instr.makeMap,Sem.run_bind,run_underlying ht,← hy.val_eq,asInt,asIntOf,Sem.run_pure,run_newObj,Result.andThen_ok]
        · cases hopt
    rw [this]
    have hf : ∀ X,Fr X w { w with heap := w.heap.push (.map #[] 0) } := fun X => Fr.push X w _
    have hb : ({ w with heap := w.heap.push (.map #[] 0) } : World).heap[w.heap.size]? = some (.map #[] 0) := by simp
    refine post_one (kills := []) (Bo := some w.heap.size) (by simp) hn hβ (by simp) (hf _) (fun B h => .inl (by cases h; exact Nat.le_refl _)) (.mp id _ setB_id (by simp only [kind?,hb])) ?_
    refine .inr ⟨w.heap.size, #[mpV []],0,setB_id,.inr ⟨id,by simp [Eff.ids,ups],setB_id⟩,.inr ⟨_,_,hb,rfl⟩,by simp,fun i hi => ?_⟩
    obtain rfl : i = 0 := by simpa using hi
    exact .val _
  · cases he
end
end Go.Proofs.YtbncpngjclabhaaGreat.Lift
namespace Go.Proofs.YtbncpngjclabhaaGreat.Lift
open Go Go.RowKit

def cellsV (z : Value) : List D := z.cells.toList.map .val
def cAlloc (P : Program) (t : TypeId) : Option AOp := match P.info? t with
    | some i => match i.zero with
      | some z => some (.mem (cellsV z))
      | none => none
    | none => none
def cBuild (P : Program) (t : TypeId) (parts : Array (Nat × Operand)) : Option AOp := match P.info? t,P.underlying t with
    | some i,some (.struct fields) => match i.zero with
      | some z => if fields.toList.all (fun f => (P.info? f.type).isSome) = true then
          (parts.toList.mapM (fun (p : Nat × Operand) => ((fields[p.1]?).map fun f => (f.offset,P.cellsOf f.type)).map fun q => (q.1,q.2,p.2))).map (.build (cellsV z)) else none
      | none => none
    | some i,some (.array _ e) => match i.zero with
      | some z => if (P.info? e).isSome = true then
          (parts.toList.mapM (fun (p : Nat × Operand) => (some (p.1 * P.cellsOf e,P.cellsOf e)).map fun q => (q.1,q.2,p.2))).map (.build (cellsV z)) else none
      | none => none
    | _,_ => none
def cBuildSl (P : Program) (t : TypeId) (len : Nat) (parts : Array (Nat × Operand)) : Option AOp := match P.underlying t with
    | some (.slice e) => match P.info? e with
      | some j => match j.zero with
        | some z => if len * P.cellsOf e ≤ 2 ^ 24 then
            (parts.toList.mapM (fun (p : Nat × Operand) => (some (p.1 * P.cellsOf e,P.cellsOf e)).map fun q => (q.1,q.2,p.2))).map
              (.buildSl (P.cellsOf e) len ((List.range (len * P.cellsOf e)).map fun k => .val (z.cells[k % z.cells.size]!))) else none
        | none => none
      | none => none
    | _ => none
def cLoad (P : Program) (t : TypeId) (a : Operand) : Option AOp := match P.underlying t with
    | some td => match P.info? t with
      | some _ => if aggT td = true then (if P.cellsOf t ≠ 0 then some (.loadN (P.cellsOf t) a) else none) else some (.load1 a)
      | none => none
    | none => none
def cStore (P : Program) (t : TypeId) (a v : Operand) : Option AOp := match P.info? t with
    | some _ => if P.cellsOf t ≠ 0 then some (.store (P.cellsOf t) a v) else none
    | none => none
def cEq (op : BinOp) (f : Bool → AOp) : Option AOp := match op with
  | .eql => some (f false)
  | .neq => some (f true)
  | _ => none
def cEqA (P : Program) (op : BinOp) (t : TypeId) (x y : Operand) : Option AOp := match leafB P 20 t with
  | some ks => if P.eqGuardType P.depth t = false then cEq op (fun b => .eqa b ks x y) else none
  | none => none
def cBin (P : Program) (op : BinOp) (t : TypeId) (x y : Operand) : Option AOp := match P.underlying t with
  | some (.int _) => some (.bin op x y)
  | some .bool => cEq op (fun b => .eqb b x y)
  | some (.slice _) => cEq op (fun b => .eqn b x y)
  | some (.struct _) => cEqA P op t x y
  | some (.array _ _) => cEqA P op t x y
  | _ => none
theorem cEq_spec {op : BinOp} {f : Bool → AOp} {ao : AOp} (h : cEq op f = some ao) : ∃ b : Bool,op = (if b then .neq else .eql) ∧ ao = f b := by
  unfold cEq at h
  split at h
  · cases h; exact ⟨false,rfl,rfl⟩
  · cases h; exact ⟨true,rfl,rfl⟩
  · cases h
def cConv (P : Program) (s t : TypeId) (x : Operand) : Option AOp := match P.underlying s,P.underlying t with
    | some (.int _),some (.int k) => some (.conv k x)
    | _,_ => none
def cSlice (P : Program) (t : TypeId) (x : Operand) (lo hi : Option Operand) : Option AOp := match P.underlying t with
    | some (.slice e) => match P.info? e with
      | some _ => some (.slS (P.cellsOf e) x lo hi)
      | none => none
    | some (.array n e) => match P.info? e with
      | some _ => if n * P.cellsOf e ≠ 0 then some (.slA n (P.cellsOf e) x lo hi) else none
      | none => none
    | _ => none
def cFad (P : Program) (s : TypeId) (x : Operand) (f : Nat) : Option AOp := match P.underlying s with
    | some (.struct fields) => match fields[f]? with
      | some fd => if (P.info? fd.type).isSome = true ∧ P.cellsOf fd.type ≠ 0 then some (.fad fd.offset x) else none
      | none => none
    | _ => none
def cField (P : Program) (s : TypeId) (x : Operand) (f : Nat) : Option AOp := match P.underlying s with
    | some (.struct fields) => match fields[f]? with
      | some fd => match P.underlying fd.type,P.info? fd.type with
        | some td,some _ => if aggT td = true then some (.fldN fd.offset (P.cellsOf fd.type) x) else some (.fld1 fd.offset x)
        | _,_ => none
      | none => none
    | _ => none
def cIad (P : Program) (t : TypeId) (x i : Operand) : Option AOp := match P.underlying t with
    | some (.slice e) => match P.info? e with
      | some _ => some (.iadS (P.cellsOf e) x i)
      | none => none
    | some (.array n e) => match P.info? e with
      | some _ => some (.iadA n (P.cellsOf e) x i)
      | none => none
    | _ => none
def cIdx (P : Program) (t : TypeId) (x i : Operand) : Option AOp := match P.underlying t with
    | some (.array n e) => match P.underlying e,P.info? e with
      | some td,some _ => if aggT td = true then some (.idxN n (P.cellsOf e) x i) else some (.idx1 n (P.cellsOf e) x i)
      | _,_ => none
    | _ => none
def cMake (P : Program) (t : TypeId) (l c : Operand) : Option AOp := match P.underlying t with
    | some (.slice e) => match P.info? e with
      | some j => match j.zero with
        | some z => if z.cells.size = P.cellsOf e then some (.mksl (P.cellsOf e) j.bytes (cellsV z) l c) else none
        | none => none
      | none => none
    | _ => none
def cLen (P : Program) (t : TypeId) (x : Operand) : Option AOp := match P.underlying t with
  | some (.slice _) => some (.len_ x)
  | some (.array n _) => some (.lenC n)
  | _ => none
def cApp (P : Program) (t tx : TypeId) (x y : Operand) : Option AOp := match P.underlying t,P.underlying tx with
  | some (.slice e),some (.slice _) => match P.info? e with
    | some j => match j.zero with
      | some z => if z.cells.size = P.cellsOf e then some (.app (P.cellsOf e) j.bytes x y) else none
      | none => none
    | none => none
  | _,_ => none
def cCall (P : Program) (c : Call) : Option AOp := match c.callee with
  | .builtin .len => match c.args.toList,c.argTypes.toList with
    | [x],[t] => cLen P t x
    | _,_ => none
  | .builtin .append => match c.args.toList,c.argTypes.toList with
    | [x,y],[t,tx] => cApp P t tx x y
    | _,_ => none
  | .builtin .max => some (.mnx true c.args.toList)
  | .builtin .min => some (.mnx false c.args.toList)
  | .value f => some (.call f c.args.toList)
  | _ => none
def cMk (P : Program) (t : TypeId) (r : Option Operand) : Option AOp := match P.underlying t with
  | some (.map _ _) => some (.mkmap r)
  | _ => none
def cLook (P : Program) (t : TypeId) (m k : Operand) (ok : Bool) : Option AOp := match P.underlying t with
  | some (.map key elem) => match leafB P 20 key,P.info? elem with
    | some ks,some i => match i.zero with
      | some z => if flatKey P key ks.length = true then some (.look ks (liftV z) ok m k) else none
      | none => none
    | _,_ => none
  | _ => none
def cMset (P : Program) (t : TypeId) (m k x : Operand) : Option AOp := match P.underlying t with
  | some (.map key _) => match leafB P 20 key with
    | some ks => if flatKey P key ks.length = true then some (.mset ks m k x) else none
    | none => none
  | _ => none
def compOp (P : Program) (o : Op) : Option AOp := match o with
  | .move x => some (.mv x)
  | .assign x => some (.mv x)
  | .pick c a b => some (.pick c a b)
  | .box _ x => some (.box x)
  | .alloc t => cAlloc P t
  | .build t parts => cBuild P t parts
  | .buildSlice t len parts => cBuildSl P t len parts
  | .load t a => cLoad P t a
  | .store t a v => cStore P t a v
  | .nilCheck x => some (.nilc x)
  | .binOp op t x y _ => cBin P op t x y
  | .unOp op _ x => some (.un op x)
  | .convert s t x => cConv P s t x
  | .makeFunc (.func f) first caps => some (.mkfn f first.toList caps.toList)
  | .slice t x lo hi none => cSlice P t x lo hi
  | .fieldAddr s x f => cFad P s x f
  | .field s x f => cField P s x f
  | .indexAddr t x i => cIad P t x i
  | .index t x i => cIdx P t x i
  | .extract x i => some (.ext x i)
  | .makeSlice t l c => cMake P t l c
  | .call c => cCall P c
  | .makeMap t r => cMk P t r
  | .lookup t m k ok => cLook P t m k ok
  | .mapUpdate t m k x => cMset P t m k x
  | .insert t m k x => cMset P t m k x
  | _ => none

theorem comp_sound {P : Program} {o : Oper} {ao : AOp} (hc : compOp P o.op = some ao) {ρ : Operand → D} {H : Heap} {id : Nat} {ef : Eff} (he : aexec ρ H id ao = some ef) : Does P o ρ H ef := by
  cases ho : o.op with
  | move x => rw [ho] at hc; cases hc; exact does_mv (.inl ho) he
  | assign x => rw [ho] at hc; cases hc; exact does_mv (.inr ho) he
  | pick c a b => rw [ho] at hc; cases hc; exact does_pick ho he
  | box t x => rw [ho] at hc; cases hc; exact does_box ho he
  | alloc t =>
    rw [ho] at hc; simp only [compOp,cAlloc] at hc
    split at hc
    · rename_i i hi
      split at hc
      · rename_i z hz; cases hc; exact does_mem ho hi hz he
      · cases hc
    · cases hc
  | build t parts =>
    rw [ho] at hc; simp only [compOp,cBuild] at hc
    split at hc
    · rename_i i fields hi hu
      split at hc
      · rename_i z hz
        split at hc
        · rename_i hall
          simp only [Option.map_eq_some_iff] at hc
          obtain ⟨ps,hps,rfl⟩ := hc
          exact does_build_struct ho hi hz hu (fun f hf => Option.isSome_iff_exists.1 (List.all_eq_true.1 hall f hf)) hps he
        · cases hc
      · cases hc
    · rename_i i n e hi hu
      split at hc
      · rename_i z hz
        split at hc
        · rename_i hall
          simp only [Option.map_eq_some_iff] at hc
          obtain ⟨ps,hps,rfl⟩ := hc
          obtain ⟨j,hj⟩ := Option.isSome_iff_exists.1 hall
          exact does_build_array ho hi hz hu hj (by simpa using hps) he
        · cases hc
      · cases hc
    · cases hc
  | buildSlice t len parts =>
    rw [ho] at hc; simp only [compOp,cBuildSl] at hc
    split at hc
    · rename_i e hu
      split at hc
      · rename_i j hj
        split at hc
        · rename_i z hz
          split at hc
          · rename_i hlen
            simp only [Option.map_eq_some_iff] at hc
            obtain ⟨ps,hps,rfl⟩ := hc
            exact does_buildSl ho hu hj hz hlen (by simpa using hps) he
          · cases hc
        · cases hc
      · cases hc
    · cases hc
  | load t a =>
    rw [ho] at hc; simp only [compOp,cLoad] at hc
    split at hc
    · rename_i td hu
      split at hc
      · rename_i i hi
        split at hc
        · rename_i hag
          split at hc
          · rename_i h0; cases hc; exact does_loadN ho hu hag hi h0 he
          · cases hc
        · rename_i hag; cases hc; exact does_load1 ho hu (by simpa using hag) he
      · cases hc
    · cases hc
  | store t a v =>
    rw [ho] at hc; simp only [compOp,cStore] at hc
    split at hc
    · rename_i i hi
      split at hc
      · rename_i h0; cases hc; exact does_store ho hi h0 he
      · cases hc
    · cases hc
  | nilCheck x => rw [ho] at hc; cases hc; exact does_nilc ho he
  | binOp op t x y u =>
    rw [ho] at hc; simp only [compOp,cBin] at hc
    have agg : ∀ td,P.underlying t = some td → aggT td = true → cEqA P op t x y = some ao → Does P o ρ H ef := by
      intro td hu hag hc
      unfold cEqA at hc
      split at hc
      · rename_i ks hk
        split at hc
        · rename_i hg
          obtain ⟨b,rfl,rfl⟩ := cEq_spec hc
          exact does_eqa ho hu hag hk hg he
        · cases hc
      · cases hc
    split at hc
    · cases hc; exact does_bin ho he
    · rename_i hu
      obtain ⟨b,rfl,rfl⟩ := cEq_spec hc
      exact does_eqb ho hu he
    · rename_i e hu
      obtain ⟨b,rfl,rfl⟩ := cEq_spec hc
      exact does_eqn ho hu he
    · rename_i fs hu; exact agg _ hu rfl hc
    · rename_i n e hu; exact agg _ hu rfl hc
    · cases hc
  | unOp op t x => rw [ho] at hc; cases hc; exact does_un ho he
  | convert s t x =>
    rw [ho] at hc; simp only [compOp,cConv] at hc
    split at hc
    · rename_i k' k hs ht; cases hc; exact does_conv ho hs ht he
    · cases hc
  | makeFunc fn first caps =>
    rw [ho] at hc
    cases fn with
    | func f => cases hc; exact does_mkfn ho he
    | _ => cases hc
  | slice t x lo hi mx =>
    rw [ho] at hc
    cases mx with
    | some m => cases hc
    | none =>
      simp only [compOp,cSlice] at hc
      split at hc
      · rename_i e hu
        split at hc
        · rename_i j hj; cases hc; exact does_slS ho hu hj he
        · cases hc
      · rename_i n e hu
        split at hc
        · rename_i j hj
          split at hc
          · rename_i h0; cases hc; exact does_slA ho hu hj h0 he
          · cases hc
        · cases hc
      · cases hc
  | fieldAddr s x f =>
    rw [ho] at hc; simp only [compOp,cFad] at hc
    split at hc
    · rename_i fields hs
      split at hc
      · rename_i fd hf
        split at hc
        · rename_i h0
          cases hc
          obtain ⟨j,hj⟩ := Option.isSome_iff_exists.1 h0.1
          exact does_fad ho hs hf hj h0.2 he
        · cases hc
      · cases hc
    · cases hc
  | field s x f =>
    rw [ho] at hc; simp only [compOp,cField] at hc
    split at hc
    · rename_i fields hs
      split at hc
      · rename_i fd hf
        split at hc
        · rename_i td ti hu hi
          split at hc
          · rename_i hag; cases hc; exact does_fldN ho hs hf hu hag hi he
          · rename_i hag; cases hc; exact does_fld1 ho hs hf hu (by simpa using hag) he
        · cases hc
      · cases hc
    · cases hc
  | indexAddr t x i =>
    rw [ho] at hc; simp only [compOp,cIad] at hc
    split at hc
    · rename_i e hu
      split at hc
      · rename_i j hj; cases hc; exact does_iadS ho hu hj he
      · cases hc
    · rename_i n e hu
      split at hc
      · rename_i j hj; cases hc; exact does_iadA ho hu hj he
      · cases hc
    · cases hc
  | index t x i =>
    rw [ho] at hc; simp only [compOp,cIdx] at hc
    split at hc
    · rename_i n e ht
      split at hc
      · rename_i td ti hu hi
        split at hc
        · rename_i hag; cases hc; exact does_idxN ho ht hu hag hi he
        · rename_i hag; cases hc; exact does_idx1 ho ht hu (by simpa using hag) hi he
      · cases hc
    · cases hc
  | extract x i => rw [ho] at hc; cases hc; exact does_ext ho he
  | makeSlice t l c =>
    rw [ho] at hc; simp only [compOp,cMake] at hc
    split at hc
    · rename_i e hu
      split at hc
      · rename_i j hj
        split at hc
        · rename_i z hz
          split at hc
          · rename_i h0; cases hc; exact does_mksl ho hu hj hz h0 he
          · cases hc
        · cases hc
      · cases hc
    · cases hc
  | call c =>
    rw [ho] at hc
    simp only [compOp,cCall] at hc
    have mk : ∀ (b : Builtin) (as : List Operand) (ts : List TypeId),c.callee = .builtin b → c.args.toList = as → c.argTypes.toList = ts → o.op = .call ⟨.builtin b,as.toArray,ts.toArray⟩ := by
      intro b as ts h1 h2 h3
      rw [ho]
      cases c
      simp only at h1 h2 h3
      subst h1; subst h2; subst h3
      simp
    split at hc
    · rename_i hcal
      split at hc
      · rename_i x t h1 h2
        simp only [cLen] at hc
        split at hc
        · rename_i e hu; cases hc; exact does_len (mk _ _ _ hcal h1 h2) hu he
        · rename_i n e hu; cases hc; exact does_lenC (mk _ _ _ hcal h1 h2) hu he
        · cases hc
      · cases hc
    · rename_i hcal
      split at hc
      · rename_i x y t tx h1 h2
        simp only [cApp] at hc
        split at hc
        · rename_i e e2 hu hu2
          split at hc
          · rename_i j hj
            split at hc
            · rename_i z hz
              split at hc
              · rename_i h0; cases hc; exact does_app (mk _ _ _ hcal h1 h2) hu hu2 hj hz h0 he
              · cases hc
            · cases hc
          · cases hc
        · cases hc
      · cases hc
    · rename_i hcal; cases hc; exact does_mnx (mx := true) ho hcal he
    · rename_i hcal; cases hc; exact does_mnx (mx := false) ho hcal he
    · cases hc; simp [aexec] at he
    · cases hc
  | makeMap t r =>
    rw [ho] at hc; simp only [compOp,cMk] at hc
    split at hc
    · rename_i k e hu; cases hc; exact does_mkmap ho hu he
    · cases hc
  | lookup t m k ok =>
    rw [ho] at hc; simp only [compOp,cLook] at hc
    split at hc
    · rename_i key elem hu
      split at hc
      · rename_i ks i hk hi
        split at hc
        · rename_i z hz
          split at hc
          · rename_i hf; cases hc; exact does_look ho hu hf hk hi hz he
          · cases hc
        · cases hc
      · cases hc
    · cases hc
  | mapUpdate t m k x =>
    rw [ho] at hc; simp only [compOp,cMset] at hc
    split at hc
    · rename_i key elem hu
      split at hc
      · rename_i ks hk
        split at hc
        · rename_i hf; cases hc; exact does_mset (.inl ho) hu hf hk he
        · cases hc
      · cases hc
    · cases hc
  | insert t m k x =>
    rw [ho] at hc; simp only [compOp,cMset] at hc
    split at hc
    · rename_i key elem hu
      split at hc
      · rename_i ks hk
        split at hc
        · rename_i hf; cases hc; exact does_mset (.inr ho) hu hf hk he
        · cases hc
      · cases hc
    · cases hc
  | _ => rw [ho] at hc; cases hc
end Go.Proofs.YtbncpngjclabhaaGreat.Lift
