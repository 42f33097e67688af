/- Texts of the law TopSlung, part 5. No conditions. -/
import Derived.Test.YtgibbaadjbohdaaPTopSlung04
import Derived.Test.YtgibbaadjbohdaaRows
/- The functions' bodies, translated. Written by a program; no conditions. -/
namespace Go.Proofs.Ytgibbaadjbohdaa
open Go.RowKit Lift

/-- spans_within -/
def cspans_within : ACode :=
  (.seq
   (.region false [⟨some 6, .mv (.const (.bool false)), none, []⟩] [])
  (.seq
   (.region false [⟨some 7, .mv (.tmp 0), none, []⟩,
     ⟨some 8, .mv (.tmp 1), none, []⟩,
     ⟨some 9, .bin .geq (.tmp 7) (.tmp 8), none, []⟩,
     ⟨some 10, .mv (.tmp 9), none, []⟩,
     ⟨some 11, .mv (.tmp 0), (some (some 10, true)), []⟩,
     ⟨some 12, .mv (.tmp 2), (some (some 10, true)), []⟩,
     ⟨some 13, .bin .leq (.tmp 11) (.tmp 12), (some (some 10, true)), []⟩,
     ⟨some 14, .pick (.tmp 10) (.tmp 13) (.const (.bool false)), none, []⟩,
     ⟨some 6, .mv (.tmp 14), none, []⟩] [7, 8, 9, 10, 11, 12, 13, 14])
  .ret))
set_option maxRecDepth 100000 in
theorem kspans_within : IsCode Try.prog 74 15 cspans_within [.tmp 6] :=
  ⟨Try.f74, _, [0, 1, 2, 6], Try.func74, rfl, by decide, rfl, by kernel_rfl, by kernel_rfl⟩
/-- spans_valid -/
def cspans_valid : ACode :=
  (.seq
   (.region false [⟨some 1, .box (.tmp 0), none, []⟩,
     ⟨some 2, .mv (.const (.bool false)), none, []⟩] [])
  (.seq
   (.region false [⟨some 3, .fad 0 (.tmp 1), none, []⟩,
     ⟨some 4, .load1 (.tmp 3), none, []⟩,
     ⟨some 5, .fad 1 (.tmp 1), none, []⟩,
     ⟨some 6, .load1 (.tmp 5), none, []⟩,
     ⟨some 7, .call (.func 74) [(.tmp 4), (.const (.int .i64 (-1000000))), (.tmp 6)], none, []⟩,
     ⟨some 8, .mv (.tmp 7), none, []⟩,
     ⟨some 9, .fad 1 (.tmp 1), (some (some 8, true)), []⟩,
     ⟨some 10, .load1 (.tmp 9), (some (some 8, true)), []⟩,
     ⟨some 11, .bin .leq (.tmp 10) (.const (.int .i64 1000000)), (some (some 8, true)), []⟩,
     ⟨some 12, .pick (.tmp 8) (.tmp 11) (.const (.bool false)), none, []⟩,
     ⟨some 2, .mv (.tmp 12), none, []⟩] [3, 4, 5, 6, 7, 8, 9, 10, 11, 12])
  .ret))
set_option maxRecDepth 100000 in
theorem kspans_valid : IsCode Try.prog 82 13 cspans_valid [.tmp 2] :=
  ⟨Try.f82, _, [0, 1, 2], Try.func82, rfl, by decide, rfl, by kernel_rfl, by kernel_rfl⟩
/-- spans_spanned_S1 -/
def cspans_spanned_S1 : ACode :=
  (.seq
   (.region false [⟨some 1, .box (.tmp 0), none, []⟩,
     ⟨some 2, .mv (.const (.bool false)), none, []⟩] [])
  (.seq
   (.region false [⟨some 3, .loadN 2 (.tmp 1), none, []⟩,
     ⟨some 4, .call (.func 82) [(.tmp 3)], none, []⟩,
     ⟨some 5, .un .not (.tmp 4), none, []⟩,
     ⟨some 2, .mv (.tmp 5), none, []⟩] [3, 4, 5])
  .ret))
set_option maxRecDepth 100000 in
theorem kspans_spanned_S1 : IsCode Try.prog 81 6 cspans_spanned_S1 [.tmp 2] :=
  ⟨Try.f81, _, [0, 1, 2], Try.func81, rfl, by decide, rfl, by kernel_rfl, by kernel_rfl⟩
/-- slices_IndexFunc_L_L_Japi_Span_Kapi_Span_J -/
def cslices_IndexFunc_L_L_Japi_Span_Kapi_Span_J : ACode :=
  (.seq
   (.region false [⟨some 4, .mv (.const (.int .i64 0)), none, []⟩] [])
  (.seq
   (.seq
    (.region false [⟨some 6, .mv (.tmp 0), none, []⟩,
      ⟨some 7, .len_ (.tmp 6), none, []⟩,
      ⟨some 8, .mv (.const (.int .i64 0)), none, []⟩] [6])
   (.block 0
     (.loop
       (.seq
        (.region false [⟨some 9, .bin .lss (.tmp 8) (.tmp 7), none, []⟩] [])
       (.seq
        (.cond (.tmp 9)
          .skip
          (.exit 0))
       (.seq
        (.block 1
          (.seq
           (.region false [⟨some 10, .mv (.tmp 8), none, []⟩,
             ⟨some 5, .mv (.tmp 10), none, []⟩] [10])
          (.seq
           (.region false [⟨some 11, .mv (.tmp 1), none, []⟩,
             ⟨some 12, .mv (.tmp 0), none, []⟩,
             ⟨some 13, .mv (.tmp 5), none, []⟩,
             ⟨some 14, .iadS 2 (.tmp 12) (.tmp 13), none, []⟩,
             ⟨some 15, .loadN 2 (.tmp 14), none, []⟩,
             ⟨some 16, .call (.tmp 11) [(.tmp 15)], none, []⟩] [11, 12, 13, 14, 15])
          (.cond (.tmp 16)
            (.seq
             (.region false [⟨some 17, .mv (.tmp 5), none, []⟩,
               ⟨some 4, .mv (.tmp 17), none, []⟩] [17])
            .ret)
            .skip))))
       (.region false [⟨some 18, .bin .add (.tmp 8) (.const (.int .i64 1)), none, []⟩,
         ⟨some 8, .mv (.tmp 18), none, []⟩] [18])))))))
  (.seq
   (.region false [⟨some 4, .mv (.const (.int .i64 (-1))), none, []⟩] [])
  .ret)))
set_option maxRecDepth 100000 in
theorem kslices_IndexFunc_L_L_Japi_Span_Kapi_Span_J : IsCode Try.prog 118 19 cslices_IndexFunc_L_L_Japi_Span_Kapi_Span_J [.tmp 4] :=
  ⟨Try.f118, _, [16, 9, 0, 8, 7, 1, 5, 4], Try.func118, rfl, by decide, rfl, by kernel_rfl, by kernel_rfl⟩
/-- slices_ContainsFunc_L_L_Japi_Span_Kapi_Span_J -/
def cslices_ContainsFunc_L_L_Japi_Span_Kapi_Span_J : ACode :=
  (.seq
   (.region false [⟨some 4, .mv (.const (.bool false)), none, []⟩] [])
  (.seq
   (.region false [⟨some 5, .mv (.tmp 0), none, []⟩,
     ⟨some 6, .mv (.tmp 1), none, []⟩,
     ⟨some 7, .call (.func 118) [(.tmp 5), (.tmp 6)], none, []⟩,
     ⟨some 8, .bin .geq (.tmp 7) (.const (.int .i64 0)), none, []⟩,
     ⟨some 4, .mv (.tmp 8), none, []⟩] [5, 6, 7, 8])
  .ret))
set_option maxRecDepth 100000 in
theorem kslices_ContainsFunc_L_L_Japi_Span_Kapi_Span_J : IsCode Try.prog 80 9 cslices_ContainsFunc_L_L_Japi_Span_Kapi_Span_J [.tmp 4] :=
  ⟨Try.f80, _, [0, 1, 4], Try.func80, rfl, by decide, rfl, by kernel_rfl, by kernel_rfl⟩
/-- spans_spanned -/
def cspans_spanned : ACode :=
  (.seq
   (.region false [⟨some 2, .mv (.const (.int .i64 0)), none, []⟩] [])
  (.seq
   (.seq
    (.region false [⟨some 3, .mv (.tmp 0), none, []⟩,
      ⟨some 4, .call (.func 80) [(.tmp 3), (.func 81)], none, []⟩] [3])
   (.cond (.tmp 4)
     (.seq
      (.region false [⟨some 2, .mv (.const (.int .i64 10)), none, []⟩] [])
     .ret)
     .skip))
  (.seq
   (.region false [⟨some 2, .mv (.const (.int .i64 0)), none, []⟩] [])
  .ret)))
set_option maxRecDepth 100000 in
theorem kspans_spanned : IsCode Try.prog 44 5 cspans_spanned [.tmp 2] :=
  ⟨Try.f44, _, [4, 0, 2], Try.func44, rfl, by decide, rfl, by kernel_rfl, by kernel_rfl⟩
/-- spans_Check -/
def cspans_Check : ACode :=
  (.seq
   (.region false [⟨some 2, .mv (.const (.int .i64 0)), none, []⟩] [])
  (.seq
   (.seq
    (.region false [⟨some 3, .mv (.tmp 0), none, []⟩,
      ⟨some 4, .len_ (.tmp 3), none, []⟩,
      ⟨some 5, .call (.func 74) [(.tmp 4), (.const (.int .i64 1)), (.const (.int .i64 3))], none, []⟩,
      ⟨some 6, .un .not (.tmp 5), none, []⟩] [3, 4, 5])
   (.cond (.tmp 6)
     (.seq
      (.region false [⟨some 2, .mv (.const (.int .i64 10)), none, []⟩] [])
     .ret)
     .skip))
  (.seq
   (.region false [⟨some 7, .mv (.tmp 0), none, []⟩,
     ⟨some 8, .call (.func 44) [(.tmp 7)], none, []⟩,
     ⟨some 2, .mv (.tmp 8), none, []⟩] [7, 8])
  .ret)))
set_option maxRecDepth 100000 in
theorem kspans_Check : IsCode Try.prog 77 9 cspans_Check [.tmp 2] :=
  ⟨Try.f77, _, [6, 0, 2], Try.func77, rfl, by decide, rfl, by kernel_rfl, by kernel_rfl⟩
/-- ref01_From -/
def cref01_From : ACode :=
  (.seq
   (.region false [⟨some 6, .mv (.const (.bool false)), none, []⟩] [])
  (.seq
   (.region false [⟨some 7, .mv (.tmp 0), none, []⟩,
     ⟨some 8, .mv (.tmp 1), none, []⟩,
     ⟨some 9, .bin .geq (.tmp 7) (.tmp 8), none, []⟩,
     ⟨some 10, .mv (.tmp 9), none, []⟩,
     ⟨some 11, .mv (.tmp 0), (some (some 10, true)), []⟩,
     ⟨some 12, .mv (.tmp 2), (some (some 10, true)), []⟩,
     ⟨some 13, .bin .leq (.tmp 11) (.tmp 12), (some (some 10, true)), []⟩,
     ⟨some 14, .pick (.tmp 10) (.tmp 13) (.const (.bool false)), none, []⟩,
     ⟨some 6, .mv (.tmp 14), none, []⟩] [7, 8, 9, 10, 11, 12, 13, 14])
  .ret))
set_option maxRecDepth 100000 in
theorem kref01_From : IsCode Try.prog 43 15 cref01_From [.tmp 6] :=
  ⟨Try.f43, _, [0, 1, 2, 6], Try.func43, rfl, by decide, rfl, by kernel_rfl, by kernel_rfl⟩
/-- ref01_Valid -/
def cref01_Valid : ACode :=
  (.seq
   (.region false [⟨some 1, .box (.tmp 0), none, []⟩,
     ⟨some 2, .mv (.const (.bool false)), none, []⟩] [])
  (.seq
   (.region false [⟨some 3, .fad 0 (.tmp 1), none, []⟩,
     ⟨some 4, .load1 (.tmp 3), none, []⟩,
     ⟨some 5, .call (.func 43) [(.tmp 4), (.const (.int .i64 (-1000000))), (.const (.int .i64 1000000))], none, []⟩,
     ⟨some 6, .mv (.tmp 5), none, []⟩,
     ⟨some 7, .fad 1 (.tmp 1), (some (some 6, true)), []⟩,
     ⟨some 8, .load1 (.tmp 7), (some (some 6, true)), []⟩,
     ⟨some 9, .fad 0 (.tmp 1), (some (some 6, true)), []⟩,
     ⟨some 10, .load1 (.tmp 9), (some (some 6, true)), []⟩,
     ⟨some 11, .call (.func 43) [(.tmp 8), (.tmp 10), (.const (.int .i64 1000000))], (some (some 6, true)), []⟩,
     ⟨some 12, .pick (.tmp 6) (.tmp 11) (.const (.bool false)), none, []⟩,
     ⟨some 2, .mv (.tmp 12), none, []⟩] [3, 4, 5, 6, 7, 8, 9, 10, 11, 12])
  .ret))
set_option maxRecDepth 100000 in
theorem kref01_Valid : IsCode Try.prog 17 13 cref01_Valid [.tmp 2] :=
  ⟨Try.f17, _, [0, 1, 2], Try.func17, rfl, by decide, rfl, by kernel_rfl, by kernel_rfl⟩
/-- slices_IndexFunc_L_L_Jint_Kint_J -/
def cslices_IndexFunc_L_L_Jint_Kint_J : ACode :=
  (.seq
   (.region false [⟨some 4, .mv (.const (.int .i64 0)), none, []⟩] [])
  (.seq
   (.seq
    (.region false [⟨some 6, .mv (.tmp 0), none, []⟩,
      ⟨some 7, .len_ (.tmp 6), none, []⟩,
      ⟨some 8, .mv (.const (.int .i64 0)), none, []⟩] [6])
   (.block 0
     (.loop
       (.seq
        (.region false [⟨some 9, .bin .lss (.tmp 8) (.tmp 7), none, []⟩] [])
       (.seq
        (.cond (.tmp 9)
          .skip
          (.exit 0))
       (.seq
        (.block 1
          (.seq
           (.region false [⟨some 10, .mv (.tmp 8), none, []⟩,
             ⟨some 5, .mv (.tmp 10), none, []⟩] [10])
          (.seq
           (.region false [⟨some 11, .mv (.tmp 1), none, []⟩,
             ⟨some 12, .mv (.tmp 0), none, []⟩,
             ⟨some 13, .mv (.tmp 5), none, []⟩,
             ⟨some 14, .iadS 1 (.tmp 12) (.tmp 13), none, []⟩,
             ⟨some 15, .load1 (.tmp 14), none, []⟩,
             ⟨some 16, .call (.tmp 11) [(.tmp 15)], none, []⟩] [11, 12, 13, 14, 15])
          (.cond (.tmp 16)
            (.seq
             (.region false [⟨some 17, .mv (.tmp 5), none, []⟩,
               ⟨some 4, .mv (.tmp 17), none, []⟩] [17])
            .ret)
            .skip))))
       (.region false [⟨some 18, .bin .add (.tmp 8) (.const (.int .i64 1)), none, []⟩,
         ⟨some 8, .mv (.tmp 18), none, []⟩] [18])))))))
  (.seq
   (.region false [⟨some 4, .mv (.const (.int .i64 (-1))), none, []⟩] [])
  .ret)))
set_option maxRecDepth 100000 in
theorem kslices_IndexFunc_L_L_Jint_Kint_J : IsCode Try.prog 129 19 cslices_IndexFunc_L_L_Jint_Kint_J [.tmp 4] :=
  ⟨Try.f129, _, [16, 9, 0, 8, 7, 1, 5, 4], Try.func129, rfl, by decide, rfl, by kernel_rfl, by kernel_rfl⟩
/-- slices_ContainsFunc_L_L_Jint_Kint_J -/
def cslices_ContainsFunc_L_L_Jint_Kint_J : ACode :=
  (.seq
   (.region false [⟨some 4, .mv (.const (.bool false)), none, []⟩] [])
  (.seq
   (.region false [⟨some 5, .mv (.tmp 0), none, []⟩,
     ⟨some 6, .mv (.tmp 1), none, []⟩,
     ⟨some 7, .call (.func 129) [(.tmp 5), (.tmp 6)], none, []⟩,
     ⟨some 8, .bin .geq (.tmp 7) (.const (.int .i64 0)), none, []⟩,
     ⟨some 4, .mv (.tmp 8), none, []⟩] [5, 6, 7, 8])
  .ret))
set_option maxRecDepth 100000 in
theorem kslices_ContainsFunc_L_L_Jint_Kint_J : IsCode Try.prog 94 9 cslices_ContainsFunc_L_L_Jint_Kint_J [.tmp 4] :=
  ⟨Try.f94, _, [0, 1, 4], Try.func94, rfl, by decide, rfl, by kernel_rfl, by kernel_rfl⟩
/-- slices_IndexFunc_L_L_J_L_Jint_K_L_Jint_J -/
def cslices_IndexFunc_L_L_J_L_Jint_K_L_Jint_J : ACode :=
  (.seq
   (.region false [⟨some 4, .mv (.const (.int .i64 0)), none, []⟩] [])
  (.seq
   (.seq
    (.region false [⟨some 6, .mv (.tmp 0), none, []⟩,
      ⟨some 7, .len_ (.tmp 6), none, []⟩,
      ⟨some 8, .mv (.const (.int .i64 0)), none, []⟩] [6])
   (.block 0
     (.loop
       (.seq
        (.region false [⟨some 9, .bin .lss (.tmp 8) (.tmp 7), none, []⟩] [])
       (.seq
        (.cond (.tmp 9)
          .skip
          (.exit 0))
       (.seq
        (.block 1
          (.seq
           (.region false [⟨some 10, .mv (.tmp 8), none, []⟩,
             ⟨some 5, .mv (.tmp 10), none, []⟩] [10])
          (.seq
           (.region false [⟨some 11, .mv (.tmp 1), none, []⟩,
             ⟨some 12, .mv (.tmp 0), none, []⟩,
             ⟨some 13, .mv (.tmp 5), none, []⟩,
             ⟨some 14, .iadS 1 (.tmp 12) (.tmp 13), none, []⟩,
             ⟨some 15, .load1 (.tmp 14), none, []⟩,
             ⟨some 16, .call (.tmp 11) [(.tmp 15)], none, []⟩] [11, 12, 13, 14, 15])
          (.cond (.tmp 16)
            (.seq
             (.region false [⟨some 17, .mv (.tmp 5), none, []⟩,
               ⟨some 4, .mv (.tmp 17), none, []⟩] [17])
            .ret)
            .skip))))
       (.region false [⟨some 18, .bin .add (.tmp 8) (.const (.int .i64 1)), none, []⟩,
         ⟨some 8, .mv (.tmp 18), none, []⟩] [18])))))))
  (.seq
   (.region false [⟨some 4, .mv (.const (.int .i64 (-1))), none, []⟩] [])
  .ret)))
set_option maxRecDepth 100000 in
theorem kslices_IndexFunc_L_L_J_L_Jint_K_L_Jint_J : IsCode Try.prog 149 19 cslices_IndexFunc_L_L_J_L_Jint_K_L_Jint_J [.tmp 4] :=
  ⟨Try.f149, _, [16, 9, 0, 8, 7, 1, 5, 4], Try.func149, rfl, by decide, rfl, by kernel_rfl, by kernel_rfl⟩
/-- slices_ContainsFunc_L_L_J_L_Jint_K_L_Jint_J -/
def cslices_ContainsFunc_L_L_J_L_Jint_K_L_Jint_J : ACode :=
  (.seq
   (.region false [⟨some 4, .mv (.const (.bool false)), none, []⟩] [])
  (.seq
   (.region false [⟨some 5, .mv (.tmp 0), none, []⟩,
     ⟨some 6, .mv (.tmp 1), none, []⟩,
     ⟨some 7, .call (.func 149) [(.tmp 5), (.tmp 6)], none, []⟩,
     ⟨some 8, .bin .geq (.tmp 7) (.const (.int .i64 0)), none, []⟩,
     ⟨some 4, .mv (.tmp 8), none, []⟩] [5, 6, 7, 8])
  .ret))
set_option maxRecDepth 100000 in
theorem kslices_ContainsFunc_L_L_J_L_Jint_K_L_Jint_J : IsCode Try.prog 138 9 cslices_ContainsFunc_L_L_J_L_Jint_K_L_Jint_J [.tmp 4] :=
  ⟨Try.f138, _, [0, 1, 4], Try.func138, rfl, by decide, rfl, by kernel_rfl, by kernel_rfl⟩
end Go.Proofs.Ytgibbaadjbohdaa
/- Calls that change objects, checked by computing. No conditions. -/
namespace Go.Proofs.Ytgibbaadjbohdaa.Lift
open Go Go.RowKit

theorem aw_condT {rd : Rd} {P : Program} {n : Nat} {pre : List Nat} {Q : AExit → St → Prop} {s : St} {c : Operand} {x y : ACode} (hb : s.F.ev c = .val (.bool true)) (h : AWb rd P n pre x Q s) : AWb rd P n pre (.cond c x y) Q s := aw_cond hb (fun _ => h) (fun h => nomatch h)
theorem aw_condF {rd : Rd} {P : Program} {n : Nat} {pre : List Nat} {Q : AExit → St → Prop} {s : St} {c : Operand} {x y : ACode} (hb : s.F.ev c = .val (.bool false)) (h : AWb rd P n pre y Q s) : AWb rd P n pre (.cond c x y) Q s := aw_cond hb (fun h => nomatch h) (fun _ => h)
def HasAll (hp : Hp) : Hp → Prop
  | [] => True
  | x :: l => hget hp x.1 = some x.2 ∧ HasAll hp l
theorem HasAll.get {hp : Hp} : ∀ {h : Hp}, HasAll hp h → ∀ x ∈ h, hget hp x.1 = some x.2
  | [], _, x, hx => by simp at hx
  | y :: l, h, x, hx => by
    rcases List.mem_cons.1 hx with rfl | hx
    · exact h.1
    · exact HasAll.get h.2 x hx
def newOk (hp h : Hp) (up : Ups) : Bool := up.all fun x => (h.map (·.1)).contains x.1 || (hget hp x.1).isNone
theorem newOk_get {hp h : Hp} {up : Ups} (hk : newOk hp h up = true) : ∀ g ∈ up.map (·.1), g ∉ h.map (·.1) → hget hp g = none := fun g hg hn => by
  obtain ⟨x, hx, rfl⟩ := List.mem_map.1 hg
  have := List.all_eq_true.1 hk x hx
  simp only [Bool.or_eq_true, List.contains_iff_mem, Option.isNone_iff_eq_none] at this
  exact this.resolve_left hn
theorem vr_valq {H : Heap} {V : List Nat} {m : List (Nat × Nat)} {v v' : Value} (h : v = v') : VR H V m (.val v) (.val v') := h ▸ vr_val v
theorem vr_listq {H : Heap} {V : List Nat} {m : List (Nat × Nat)} {l l' : List (List D)} (h : l = l') : VR H V m (.list l) (.list l') := h ▸ vr_list l
section
variable {P : Program} {dr : Bool} {b : Nat} {Q : St → Prop} {dst : Option Nat} {anc : List Nat} {l : List AOper} {k : Nat} {s : St} {log : Lg}
theorem acallB {f : FuncId} {first caps args : List D} {d : D} {h : Hp} {up : Ups} (hA : AC P f (first ++ args ++ caps) h up d) (hh : HasAll s.hp h) (hf : newOk s.hp h up = true) (hn : okNew s.hp (b + 8 * k) (up.map (·.1)) = true)
    (hl : okLog dr log anc (h.map (·.1) ++ []) (up.map (·.1)) = true) (hK : ARun P dr b Q l (k + 1) (s.app dst d up) ((k, h.map (·.1) ++ [], up.map (·.1)) :: log)) : ACallK P dr b Q (.fn f first caps) args dst anc l k s log :=
  acallH hA [] (VwL.refl _) (.inl rfl) (by simp) (by simp) hh.get (newOk_get hf) hn hl hK
end
end Go.Proofs.Ytgibbaadjbohdaa.Lift
/- Within. No conditions. -/
namespace Go.Proofs.Ytgibbaadjbohdaa
open Go.RowKit Lift

def wI (n a b : Int) : Bool := decide (a ≤ n) && decide (n ≤ b)
theorem wI_t {n a b : Int} (h : wI n a b = true) : a ≤ n ∧ n ≤ b := by simpa [wI] using h
end Go.Proofs.Ytgibbaadjbohdaa
/- What comes behind a region, hidden while the region is walked. No conditions. -/
namespace Go.Proofs.Ytgibbaadjbohdaa.Lift
open Go Go.RowKit

theorem aw_hide {rd : Rd} {P : Program} {n : Nat} {pre : List Nat} {Q : AExit → St → Prop} {s : St} {x : ACode} (h : ∀ K : AExit → St → Prop, K = Q → AWb rd P n pre x K s) : AWb rd P n pre x Q s := h Q rfl
section
variable {K : St → Prop} {Q : AExit → St → Prop} {s : St}
theorem thenQ_n (h : K s) : thenQ K Q .norm s := h
theorem thenQ_e {i : Nat} (h : Q (.ex i) s) : thenQ K Q (.ex i) s := h
theorem blockQ_n {id : Nat} (h : Q .norm s) : blockQ id Q .norm s := h
theorem blockQ_t {id : Nat} (h : Q .norm s) : blockQ id Q (.ex id) s := by simp only [blockQ, if_true]; exact h
theorem blockQ_f {id i : Nat} (hn : i ≠ id) (h : Q (.ex i) s) : blockQ id Q (.ex i) s := by simp only [blockQ]; rw [if_neg hn]; exact h
end
end Go.Proofs.Ytgibbaadjbohdaa.Lift
/- A recorder's layout, its frames and samples, in numbers. No conditions. -/
namespace Go.Proofs.Ytgibbaadjbohdaa
open Go.RowKit Lift

/-- a field -/
structure Fl where
  word : Int
  bit : Int
  size : Int
  sgn : Bool
  num : Int
  den : Int
  add : Int
  every : Int
  phase : Int
/-- a layout -/
structure Lay where
  words : Int
  s0 : Int
  s1 : Int
  s2 : Int
  s3 : Int
  fl : List Fl
def fl0 : Fl := ⟨0, 0, 0, false, 0, 0, 0, 0, 0⟩
def sync (l : Lay) : List Int := [l.s0, l.s1, l.s2, l.s3]

/-- a valid field in frames of so many words -/
structure FOk (w : Int) (f : Fl) : Prop where
  w1 : 1 ≤ f.word
  w2 : f.word ≤ w - 1
  b1 : 0 ≤ f.bit
  s1 : 1 ≤ f.size
  bs : f.bit + f.size ≤ 12
  n1 : -1000 ≤ f.num
  n2 : f.num ≤ 1000
  d1 : 1 ≤ f.den
  d2 : f.den ≤ 1000
  a1 : -1000000 ≤ f.add
  a2 : f.add ≤ 1000000
  ev : f.every = 1 ∨ f.every = 2 ∨ f.every = 4
  p1 : 0 ≤ f.phase
  p2 : f.phase ≤ f.every - 1
/-- recorded in a subframe -/
def inSub (f : Fl) (s : Int) : Prop := s.tmod f.every = f.phase
instance (f : Fl) (s : Int) : Decidable (inSub f s) := inferInstanceAs (Decidable (_ = _))
/-- the same word, and a bit in common -/
def Ovl (f g : Fl) : Prop := f.word = g.word ∧ f.bit < g.bit + g.size ∧ g.bit < f.bit + f.size
structure LayOk (l : Lay) : Prop where
  w1 : 2 ≤ l.words
  w2 : l.words ≤ 32
  nf : l.fl.length ≤ 16
  sy : ∀ k, k < 4 → 0 ≤ (sync l)[k]?.getD 0 ∧ (sync l)[k]?.getD 0 ≤ 4095
  sd : ∀ i, i < 4 → ∀ k, k < i → (sync l)[i]?.getD 0 ≠ (sync l)[k]?.getD 0
  fo : ∀ k, k < l.fl.length → FOk l.words (l.fl[k]?.getD fl0)
  ov : ∀ i, i < l.fl.length → ∀ k, k < i → ∀ s : Nat, s < 4 → inSub (l.fl[i]?.getD fl0) s → inSub (l.fl[k]?.getD fl0) s → ¬ Ovl (l.fl[i]?.getD fl0) (l.fl[k]?.getD fl0)
/-- the raw number in a word -/
def rawU (f : Fl) (w : Nat) : Nat := w / 2 ^ f.bit.toNat % 2 ^ f.size.toNat
def rawI (f : Fl) (w : Nat) : Int := if f.sgn = true ∧ 2 ^ (f.size.toNat - 1) ≤ rawU f w then (rawU f w : Int) - 2 ^ f.size.toNat else rawU f w
def valI (f : Fl) (r : Int) : Int := f.add * f.den + r * f.num
/-- a word of a good frame -/
def wOk (x : Int) : Bool := decide (0 ≤ x) && decide (x ≤ 4095)
def frOk (l : Lay) (fr : List Int) : Prop := (fr.length : Int) = l.words ∧ fr.all wOk = true
instance (l : Lay) (fr : List Int) : Decidable (frOk l fr) := inferInstanceAs (Decidable (_ ∧ _))
def idx4 (l : Lay) (x : Int) : Int := if x = l.s0 then 0 else if x = l.s1 then 1 else if x = l.s2 then 2 else if x = l.s3 then 3 else -1
/-- the subframe of a frame -/
def subF (l : Lay) (fr : List Int) : Int := if frOk l fr then idx4 l (fr[0]?.getD 0) else -1
/-- the sample of a field in a frame -/
def smp (l : Lay) (f : Fl) (fr : List Int) : Option Int := if 0 ≤ subF l fr ∧ inSub f (subF l fr) then some (valI f (rawI f (fr[f.word.toNat]?.getD 0).toNat)) else none
def frm (frs : List (List Int)) (k : Nat) : List Int := frs[k]?.getD []
end Go.Proofs.Ytgibbaadjbohdaa
/- Bits that fields use, and what is packed, in numbers. No conditions. -/
namespace Go.Proofs.Ytgibbaadjbohdaa
open Go.RowKit Lift

/-! ### packing -/
/-- a raw number that can be in a field -/
def canF (f : Fl) (n : Int) : Prop := if f.sgn = true then -(2 ^ (f.size.toNat - 1)) ≤ n ∧ n ≤ 2 ^ (f.size.toNat - 1) - 1 else 0 ≤ n ∧ n ≤ 2 ^ f.size.toNat - 1
instance (f : Fl) (n : Int) : Decidable (canF f n) := by unfold canF; infer_instance
def packOk (s : Int) (f : Fl) (n : Int) : Prop := if inSub f s then canF f n else n = 0
instance (s : Int) (f : Fl) (n : Int) : Decidable (packOk s f n) := by unfold packOk; infer_instance
end Go.Proofs.Ytgibbaadjbohdaa
/- Conditions and events over frames, in numbers. No conditions. -/
namespace Go.Proofs.Ytgibbaadjbohdaa
open Go.RowKit Lift

/-- a condition -/
structure Cd where
  field : Int
  lim : Int
  above : Bool
def cndV (c : Cd) (f : Fl) (v : Int) : Bool := if c.above = true then decide (v ≥ c.lim * f.den) else decide (v ≤ c.lim * f.den)

section
variable (l : Lay) (frs : List (List Int)) (c : Cd) (f : Fl)
/-- whether the condition holds in frame j, by the samples of the first frames -/
def hAt : Nat → Nat → Bool
  | 0, _ => false
  | k + 1, j => match smp l f (frm frs k) with
    | some v => if k ≤ j ∧ (j : Int) < k + f.every then cndV c f v else hAt k j
    | none => hAt k j
variable {l frs c f}
variable (l frs c f)
variable {l frs c f}
variable (l frs c f)
def hL (n k : Nat) : List Bool := (List.range n).map fun j => hAt l frs c f k j
end
/-! ### events -/
section
variable (is : Nat → Bool) (H : Int)
/-! ### what is found -/
end
end Go.Proofs.Ytgibbaadjbohdaa
/- A safety case, in numbers. No conditions. -/
namespace Go.Proofs.Ytgibbaadjbohdaa
open Go.RowKit Lift

/-- a claim -/
structure Clm where
  needs : List Int
  proofs : List Int
  any : Bool
/-- a case -/
structure Cas where
  cl : List Clm
  pf : List (Int × Int)
def cl0 : Clm := ⟨[], [], false⟩
/-- strictly ascending, from 0 to below a limit -/
def Asc (l : List Int) (b : Int) : Prop := ∀ i, i < l.length → 0 ≤ l[i]?.getD 0 ∧ l[i]?.getD 0 < b ∧ (0 < i → l[i - 1]?.getD 0 < l[i]?.getD 0)
def pfOk (a : Int × Int) : Prop := 0 ≤ a.1 ∧ a.1 ≤ a.2 ∧ a.2 ≤ 2000
instance (a : Int × Int) : Decidable (pfOk a) := inferInstanceAs (Decidable (_ ∧ _))
def clAt (c : Cas) (i : Nat) : Clm := c.cl[i]?.getD cl0
def pfAt (c : Cas) (i : Nat) : Int × Int := c.pf[i]?.getD (0, 0)
structure CasOk (c : Cas) : Prop where
  n1 : c.cl.length ≤ 16
  n2 : c.pf.length ≤ 12
  asc : ∀ i, i < c.cl.length → Asc (clAt c i).needs i ∧ Asc (clAt c i).proofs c.pf.length
  pf : ∀ i, i < c.pf.length → pfOk (pfAt c i)
end Go.Proofs.Ytgibbaadjbohdaa
/- Boxes as abstract values; what is left of a box without another one. No conditions. -/
namespace Go.Proofs.Ytgibbaadjbohdaa
open Go.RowKit Lift

abbrev Bx := List (Int × Int)
def sps (b : Bx) : List (List D) := b.map fun x => [.val (.int .i64 x.1), .val (.int .i64 x.2)]
def scells : Bx → List D
  | [] => []
  | x :: b => .val (.int .i64 x.1) :: .val (.int .i64 x.2) :: scells b
def bcells (l : List Bx) : List D := l.map fun b => .list (sps b)
def lo (b : Bx) (k : Nat) : Int := (b[k]?.getD (0, 0)).1
def hi (b : Bx) (k : Nat) : Int := (b[k]?.getD (0, 0)).2
theorem sps_len (b : Bx) : (sps b).length = b.length := by simp [sps]
theorem sps_all (b : Bx) : (sps b).all (fun x => x.length == 2) = true := by simp [sps]
theorem sps_two (b : Bx) : ∀ e ∈ sps b, e.length = 2 := by intro e he; obtain ⟨x, _, rfl⟩ := List.mem_map.1 he; rfl
theorem sps_flat (b : Bx) : (sps b).flatten = scells b := by
  induction b with
  | nil => rfl
  | cons x b ih => simp [sps, scells] at ih ⊢; exact ih
theorem scells_mem {b : Bx} : ∀ {d : D}, d ∈ scells b → ∃ n, d = .val (.int .i64 n) := by
  induction b with
  | nil => intro d h; simp [scells] at h
  | cons x b ih =>
    intro d h
    simp only [scells, List.mem_cons] at h
    rcases h with rfl | rfl | h
    · exact ⟨_, rfl⟩
    · exact ⟨_, rfl⟩
    · exact ih h
theorem scells_in (b : Bx) : ∀ d ∈ scells b, In (fun _ => False) d := fun d hd => by obtain ⟨n, rfl⟩ := scells_mem hd; exact .val _
theorem bcells_in (l : List Bx) : ∀ d ∈ bcells l, In (fun _ => False) d := by
  intro d hd; obtain ⟨x, _, rfl⟩ := List.mem_map.1 hd; exact .list _
theorem scells_leaf (b : Bx) : (scells b).all D.leaf = true := List.all_eq_true.2 fun d hd => by obtain ⟨n, rfl⟩ := scells_mem hd; rfl
theorem sps_gd (b : Bx) (k : Nat) (h : k < b.length) : (sps b)[k]? = some [.val (.int .i64 (lo b k)), .val (.int .i64 (hi b k))] := by simp [sps, lo, hi, h]
/-! ### what the functions compute -/
def okS (x : Int × Int) : Bool := decide (-1000000 ≤ x.1) && decide (x.1 ≤ x.2) && decide (x.2 ≤ 1000000)
def boxE (b : Bx) : Int := if 1 ≤ b.length ∧ b.length ≤ 3 ∧ b.all okS = true then 0 else 10
structure OkB (b : Bx) : Prop where
  pos : 1 ≤ b.length
  len : b.length ≤ 3
  low : ∀ k, k < b.length → -1000000 ≤ lo b k
  le : ∀ k, k < b.length → lo b k ≤ hi b k
  high : ∀ k, k < b.length → hi b k ≤ 1000000
end Go.Proofs.Ytgibbaadjbohdaa
/- record: what a case must be. No conditions. -/
set_option linter.unusedSimpArgs false
set_option linter.unusedVariables false
namespace Go.Proofs.Ytgibbaadjbohdaa
open Go Go.RowKit Lift

theorem in_sp (S : Nat → Prop) (a b : Int) : In S (.agg [dI a, dI b]) := .agg _ (by intro d hd; simp at hd; rcases hd with rfl | rfl <;> exact .val _)
set_option maxRecDepth 100000 in
set_option maxHeartbeats 1000000 in
theorem swithin_ac (n a b : Int) : AC Try.prog 74 [dI n, dI a, dI b] [] [] (dB (wI n a b)) := by
  refine kspans_within.ac (n0 := 0) (by simp) ⟨.val _, .val _, .val _, trivial⟩ trivial rfl ?_
  unfold cspans_within wI
  cases q1 : decide (a ≤ n) <;> cases q2 : decide (n ≤ b)
  all_goals
    (have hg : (987654321 : Nat) - 987654321 = 0 := rfl; have hr := hg; repeat' (first | refine aw_seq ?_ | (refine aw_skip ?_; try simp only [thenQ, blockQ, if_true, if_false, Nat.reduceEqDiff, reduceCtorEq]) | (refine aw_exit ?_; try simp only [thenQ, blockQ, if_true, if_false, Nat.reduceEqDiff, reduceCtorEq]) | refine aw_ret ?_ | refine aw_block ?_ | refine aw_condT rfl ?_ | refine aw_condF rfl ?_ | ((first | refine aw_region ?_ | refine ago_if (by omega) ?_ | skip); simp (config := {maxSteps := 10000000}) (disch := first | exact okYes (by kernel_rfl) | omega) only [thenQ, List.map, dB, Bool.and_false, List.length, Nat.zero_add, Nat.reduceMul, envOf, dI, Nat.reduceAdd, ARun_none, AOpRun, aexec, FSt.ev, AGo_ok, St.app, putO, eput_c, Nat.reduceBEq, eput_n, cond_false, hups, ARun_nil, dropE_c, inL_n, dropE_n, St.F, ↓eget_h, eget_c, isSh, Bool.false_eq_true, ↓reduceIte, Option.map, abin, ge_iff_le, q1, ARun_some, AG_ft, beq_self_eq_true, cond_true, inL_c, Bool.and_true, AG_tt, q2])))
    all_goals (refine end_to [] [] (by first | exact .inl rfl | exact .inr rfl) rfl (by kernel_rfl) (by kernel_rfl) (by kernel_rfl) ?_ ?_ <;> repeat' (first | exact trivial | exact vr_val _))
def spVB (x : Int × Int) : Bool := wI x.1 (-1000000) x.2 && decide (x.2 ≤ 1000000)
set_option maxRecDepth 100000 in
set_option maxHeartbeats 1000000 in
theorem svalid_ac (x : Int × Int) : AC Try.prog 82 [.agg [dI x.1, dI x.2]] [] [] (dB (spVB x)) := by
  refine kspans_valid.ac (n0 := 0) (by simp) ⟨in_sp _ _ _, trivial⟩ trivial rfl ?_
  unfold cspans_valid spVB
  cases q1 : wI x.1 (-1000000) x.2 <;> cases q2 : decide (x.2 ≤ 1000000)
  all_goals
    have cw := swithin_ac x.1 (-1000000) x.2
    rw [q1] at cw
    (have hg : (987654321 : Nat) - 987654321 = 0 := rfl; have hr := hg; repeat' (first | refine aw_seq ?_ | (refine aw_skip ?_; try simp only [thenQ, blockQ, if_true, if_false, Nat.reduceEqDiff, reduceCtorEq]) | (refine aw_exit ?_; try simp only [thenQ, blockQ, if_true, if_false, Nat.reduceEqDiff, reduceCtorEq]) | refine aw_ret ?_ | refine aw_block ?_ | refine aw_condT rfl ?_ | refine aw_condF rfl ?_ | ((first | refine aw_region ?_ | refine acall0 (cw) ?_ | refine ago_if (by omega) ?_ | skip); simp (config := {maxSteps := 10000000}) (disch := first | exact okYes (by kernel_rfl) | omega) only [thenQ, List.map, Int.reduceNeg, dB, Bool.and_false, List.length, Nat.zero_add, Nat.reduceAdd, Nat.reduceMul, envOf, dI, ARun_none, AOpRun, aexec, D.isBot, FSt.ev, St.F, ↓eget_h, Bool.false_eq_true, Option.isSome, hget_n, or_self, ↓reduceIte, D.cells, AGo_ok, St.app, putO, eput_c, Nat.reduceBEq, eput_n, cond_false, hups, hput_n, ARun_nil, dropE_c, inL_n, dropE_n, eget_c, Option.map, run1, hget_c, beq_self_eq_true, cond_true, List.getElem?_cons_zero, List.getElem?_cons_succ, ARun_some, AG_ft, inL_c, Bool.and_true, AG_tt, isSh, abin, q2])))
    all_goals (refine end_to [] [] (by first | exact .inl rfl | exact .inr rfl) rfl (by kernel_rfl) (by kernel_rfl) (by kernel_rfl) ?_ ?_ <;> repeat' (first | exact trivial | exact vr_val _))
set_option maxRecDepth 100000 in
set_option maxHeartbeats 1000000 in
theorem sspan1_ac (x : Int × Int) : AC Try.prog 81 [.agg [dI x.1, dI x.2]] [] [] (dB (!spVB x)) := by
  refine kspans_spanned_S1.ac (n0 := 0) (by simp) ⟨in_sp _ _ _, trivial⟩ trivial rfl ?_
  unfold cspans_spanned_S1
  (have hg : (987654321 : Nat) - 987654321 = 0 := rfl; have hr := hg; repeat' (first | refine aw_seq ?_ | (refine aw_skip ?_; try simp only [thenQ, blockQ, if_true, if_false, Nat.reduceEqDiff, reduceCtorEq]) | (refine aw_exit ?_; try simp only [thenQ, blockQ, if_true, if_false, Nat.reduceEqDiff, reduceCtorEq]) | refine aw_ret ?_ | refine aw_block ?_ | refine aw_condT rfl ?_ | refine aw_condF rfl ?_ | ((first | refine aw_region ?_ | refine acall0 (svalid_ac x) ?_ | refine ago_if (by omega) ?_ | skip); simp (config := {maxSteps := 10000000}) (disch := first | exact okYes (by kernel_rfl) | omega) only [thenQ, List.map, dB, List.length, Nat.zero_add, Nat.reduceAdd, Nat.reduceMul, envOf, dI, ARun_none, AOpRun, aexec, D.isBot, FSt.ev, St.F, ↓eget_h, Bool.false_eq_true, Option.isSome, hget_n, or_self, ↓reduceIte, D.cells, AGo_ok, St.app, putO, eput_c, Nat.reduceBEq, eput_n, cond_false, hups, hput_n, ARun_nil, dropE_c, inL_n, dropE_n, eget_c, hget_c, beq_self_eq_true, cond_true, Nat.reduceLeDiff, List.drop, List.take, inL_c])))
  all_goals (refine end_to [] [] (by first | exact .inl rfl | exact .inr rfl) rfl (by kernel_rfl) (by kernel_rfl) (by kernel_rfl) ?_ ?_ <;> repeat' (first | exact trivial | exact vr_val _))
theorem sp_at (l : List (Int × Int)) (k : Nat) (h : k < l.length) : (sps l)[k]? = some [dI (l[k]?.getD (0, 0)).1, dI (l[k]?.getD (0, 0)).2] := by simp [sps, h, dI]
set_option maxRecDepth 100000 in
set_option maxHeartbeats 1000000 in
theorem ifsp_ac (F : FuncId) (p : Int × Int → Bool) (hF : ∀ x : Int × Int, AC Try.prog F [.agg [dI x.1, dI x.2]] [] [] (dB (p x))) (l : List (Int × Int)) (hl : l.length ≤ 1000000) : AC Try.prog 118 [.list (sps l), .fn F [] []] [] [] (dI (match l.findIdx? p with
    | some k => (k : Int)
    | none => -1)) := by
  refine kslices_IndexFunc_L_L_Japi_Span_Kapi_Span_J.ac (n0 := 0) (by simp) ⟨.list _, .fn _ _ _ (by simp) (by simp), trivial⟩ trivial rfl ?_
  unfold cslices_IndexFunc_L_L_Japi_Span_Kapi_Span_J
  (have hg : (987654321 : Nat) - 987654321 = 0 := rfl; have hr := hg; repeat' (first | refine aw_seq ?_ | (refine aw_skip ?_; try simp only [thenQ, blockQ, if_true, if_false, Nat.reduceEqDiff, reduceCtorEq]) | (refine aw_exit ?_; try simp only [thenQ, blockQ, if_true, if_false, Nat.reduceEqDiff, reduceCtorEq]) | refine aw_ret ?_ | refine aw_block ?_ | refine aw_condT rfl ?_ | refine aw_condF rfl ?_ | ((first | refine aw_region ?_ | refine ago_if (by omega) ?_ | skip); simp (config := {maxSteps := 10000000}) (disch := first | exact okYes (by kernel_rfl) | omega) only [thenQ, List.map, Int.reduceNeg, dI, List.length, Nat.zero_add, Nat.reduceMul, envOf, ARun_none, AOpRun, aexec, FSt.ev, AGo_ok, St.app, putO, eput_c, Nat.reduceBEq, eput_n, cond_false, hups, ARun_nil, dropE_c, inL_n, dropE_n, Nat.reduceAdd, St.F, ↓eget_h, eget_c, sps_len, inL_c, beq_self_eq_true, cond_true])))
  refine aw_loop (fun k : Nat => ⟨[(0, .list (sps l)), (1, .fn F [] []), (7, dI l.length), (8, dI k)], [], 400⟩) (fun k => k ≤ l.length ∧ ∀ j, j < k → p (l[j]?.getD (0, 0)) = false) (fun k => l.length - k) ⟨0, ⟨by omega, fun j hj => by omega⟩, ?_⟩ ?_
  · refine wk_to [] [] (by kernel_rfl) (by kernel_rfl) (by kernel_rfl) (by kernel_rfl) (by kernel_rfl) ?_ ?_ <;> repeat' (first | exact trivial | exact vr_val _ | exact vr_list _ | apply vr_fn | apply And.intro)
  rintro k ⟨hk, hin⟩
  by_cases hk2 : k < l.length
  · have g1 := sp_at l k hk2
    have hc := hF (l[k]?.getD (0, 0))
    cases he : p (l[k]?.getD (0, 0)) with
    | true =>
      have q : l.findIdx? p = some k := by
        rw [List.findIdx?_eq_some_iff_getElem]
        refine ⟨hk2, by have := he; simp [hk2] at this; simp [this], fun j hj => ?_⟩
        have := hin j hj
        simpa [show j < l.length by omega] using this
      rw [q]
      rw [he] at hc
      (have hg : (987654321 : Nat) - 987654321 = 0 := rfl; have hr := hg; repeat' (first | refine aw_seq ?_ | (refine aw_skip ?_; try simp only [thenQ, blockQ, if_true, if_false, Nat.reduceEqDiff, reduceCtorEq]) | (refine aw_exit ?_; try simp only [thenQ, blockQ, if_true, if_false, Nat.reduceEqDiff, reduceCtorEq]) | refine aw_ret ?_ | refine aw_block ?_ | refine aw_condT rfl ?_ | refine aw_condF rfl ?_ | (refine aw_cond rfl (fun hg => ?_) (fun hg => ?_) <;> (try (have hq := hg; simp only [Bool.not_eq_true', Bool.not_eq_false', Bool.and_eq_true, Bool.and_eq_false_iff, Bool.or_eq_true, Bool.or_eq_false_iff, decide_eq_true_eq, decide_eq_false_iff_not, bne_iff_ne, beq_iff_eq, beq_eq_false_iff_ne, bne_eq_false_iff_eq, ne_eq, Int.not_lt, Int.not_le, Decidable.not_not] at hq)) <;> (try (have hr := hg; simp only [decide_eq_true_eq, decide_eq_false_iff_not] at hr)) <;> (try (exfalso; omega))) | ((first | refine aw_region ?_ | refine acall0 (hc) ?_ | refine ago_if (by omega) ?_ | skip); simp (config := {maxSteps := 10000000}) (disch := first | exact okYes (by kernel_rfl) | omega) only [thenQ, dI, Int.reduceNeg, List.length, Nat.zero_add, Nat.reduceMul, Nat.reduceAdd, ARun_none, AOpRun, aexec, FSt.ev, St.F, eget_c, Nat.reduceBEq, ↓eget_h, cond_false, isSh, Bool.false_eq_true, ↓reduceIte, Option.map, abin, AGo_ok, St.app, putO, eput_c, eput_n, hups, List.map, ARun_nil, dropE_c, inL_n, dropE_n, hr, decide_true, inL_c, beq_self_eq_true, cond_true, Int.natCast_nonneg, sps_all, and_self, opt1, Int.toNat_natCast, g1, Nat.reduceLeDiff, List.take, dB, blockQ])))
      all_goals (refine end_to [] [] (by first | exact .inl rfl | exact .inr rfl) rfl (by kernel_rfl) (by kernel_rfl) (by kernel_rfl) ?_ ?_ <;> repeat' (first | exact trivial | exact vr_val _))
    | false =>
      rw [he] at hc
      (have hg : (987654321 : Nat) - 987654321 = 0 := rfl; have hr := hg; repeat' (first | refine aw_seq ?_ | (refine aw_skip ?_; try simp only [thenQ, blockQ, if_true, if_false, Nat.reduceEqDiff, reduceCtorEq]) | (refine aw_exit ?_; try simp only [thenQ, blockQ, if_true, if_false, Nat.reduceEqDiff, reduceCtorEq]) | refine aw_ret ?_ | refine aw_block ?_ | refine aw_condT rfl ?_ | refine aw_condF rfl ?_ | (refine aw_cond rfl (fun hg => ?_) (fun hg => ?_) <;> (try (have hq := hg; simp only [Bool.not_eq_true', Bool.not_eq_false', Bool.and_eq_true, Bool.and_eq_false_iff, Bool.or_eq_true, Bool.or_eq_false_iff, decide_eq_true_eq, decide_eq_false_iff_not, bne_iff_ne, beq_iff_eq, beq_eq_false_iff_ne, bne_eq_false_iff_eq, ne_eq, Int.not_lt, Int.not_le, Decidable.not_not] at hq)) <;> (try (have hr := hg; simp only [decide_eq_true_eq, decide_eq_false_iff_not] at hr)) <;> (try (exfalso; omega))) | ((first | refine aw_region ?_ | refine acall0 (hc) ?_ | refine ago_if (by omega) ?_ | skip); simp (config := {maxSteps := 10000000}) (disch := first | exact okYes (by kernel_rfl) | omega) only [thenQ, dI, Int.reduceNeg, List.length, Nat.zero_add, Nat.reduceMul, Nat.reduceAdd, ARun_none, AOpRun, aexec, FSt.ev, St.F, eget_c, Nat.reduceBEq, ↓eget_h, cond_false, isSh, Bool.false_eq_true, ↓reduceIte, Option.map, abin, AGo_ok, St.app, putO, eput_c, eput_n, hups, List.map, ARun_nil, dropE_c, inL_n, dropE_n, hr, decide_true, inL_c, beq_self_eq_true, cond_true, Int.natCast_nonneg, sps_all, and_self, opt1, Int.toNat_natCast, g1, Nat.reduceLeDiff, List.take, dB, fits])))
      refine ⟨k + 1, ⟨by omega, fun j hj => ?_⟩, by omega, by refine wk_to [] [] (by kernel_rfl) (by kernel_rfl) (by kernel_rfl) (by kernel_rfl) (by kernel_rfl) ?_ ?_ <;> repeat' (first | exact trivial | exact vr_val _ | exact vr_list _ | apply vr_fn | apply And.intro)⟩
      rcases (by omega : j < k ∨ j = k) with h | rfl
      · exact hin j h
      · exact he
  · obtain rfl : k = l.length := by omega
    have q : l.findIdx? p = none := by
      rw [List.findIdx?_eq_none_iff]
      intro y hy
      obtain ⟨j, hj, rfl⟩ := List.getElem_of_mem hy
      have := hin j hj
      simp [hj] at this
      simp [this]
    rw [q]
    (have hg : (987654321 : Nat) - 987654321 = 0 := rfl; have hr := hg; repeat' (first | refine aw_seq ?_ | (refine aw_skip ?_; try simp only [thenQ, blockQ, if_true, if_false, Nat.reduceEqDiff, reduceCtorEq]) | (refine aw_exit ?_; try simp only [thenQ, blockQ, if_true, if_false, Nat.reduceEqDiff, reduceCtorEq]) | refine aw_ret ?_ | refine aw_block ?_ | refine aw_condT rfl ?_ | refine aw_condF rfl ?_ | (refine aw_cond rfl (fun hg => ?_) (fun hg => ?_) <;> (try (have hq := hg; simp only [Bool.not_eq_true', Bool.not_eq_false', Bool.and_eq_true, Bool.and_eq_false_iff, Bool.or_eq_true, Bool.or_eq_false_iff, decide_eq_true_eq, decide_eq_false_iff_not, bne_iff_ne, beq_iff_eq, beq_eq_false_iff_ne, bne_eq_false_iff_eq, ne_eq, Int.not_lt, Int.not_le, Decidable.not_not] at hq)) <;> (try (have hr := hg; simp only [decide_eq_true_eq, decide_eq_false_iff_not] at hr)) <;> (try (exfalso; omega))) | ((first | refine aw_region ?_ | refine ago_if (by omega) ?_ | skip); simp (config := {maxSteps := 10000000}) (disch := first | exact okYes (by kernel_rfl) | omega) only [thenQ, dI, Int.reduceNeg, List.length, Nat.zero_add, Nat.reduceMul, Nat.reduceAdd, ARun_none, AOpRun, aexec, FSt.ev, St.F, eget_c, Nat.reduceBEq, ↓eget_h, cond_false, isSh, Bool.false_eq_true, ↓reduceIte, Option.map, abin, AGo_ok, St.app, putO, eput_c, eput_n, hups, List.map, ARun_nil, dropE_c, inL_n, dropE_n, hr, decide_false])))
    all_goals (refine end_to [] [] (by first | exact .inl rfl | exact .inr rfl) rfl (by kernel_rfl) (by kernel_rfl) (by kernel_rfl) ?_ ?_ <;> repeat' (first | exact trivial | exact vr_val _))
set_option maxRecDepth 100000 in
set_option maxHeartbeats 1000000 in
theorem cfsp_ac (F : FuncId) (p : Int × Int → Bool) (hF : ∀ x : Int × Int, AC Try.prog F [.agg [dI x.1, dI x.2]] [] [] (dB (p x))) (l : List (Int × Int)) (hl : l.length ≤ 1000000) : AC Try.prog 80 [.list (sps l), .fn F [] []] [] [] (dB (l.any p)) := by
  refine kslices_ContainsFunc_L_L_Japi_Span_Kapi_Span_J.ac (n0 := 0) (by simp) ⟨.list _, .fn _ _ _ (by simp) (by simp), trivial⟩ trivial rfl ?_
  unfold cslices_ContainsFunc_L_L_Japi_Span_Kapi_Span_J
  have hf := ifsp_ac F p hF l hl
  cases h : l.findIdx? p with
  | none =>
    have ha : l.any p = false := by
      rw [List.findIdx?_eq_none_iff] at h
      exact List.any_eq_false.2 fun x hx => by simp [h x hx]
    rw [h] at hf
    rw [ha]
    (have hg : (987654321 : Nat) - 987654321 = 0 := rfl; have hr := hg; repeat' (first | refine aw_seq ?_ | (refine aw_skip ?_; try simp only [thenQ, blockQ, if_true, if_false, Nat.reduceEqDiff, reduceCtorEq]) | (refine aw_exit ?_; try simp only [thenQ, blockQ, if_true, if_false, Nat.reduceEqDiff, reduceCtorEq]) | refine aw_ret ?_ | refine aw_block ?_ | refine aw_condT rfl ?_ | refine aw_condF rfl ?_ | ((first | refine aw_region ?_ | refine acall0 (hf) ?_ | refine ago_if (by omega) ?_ | skip); simp (config := {maxSteps := 10000000}) (disch := first | exact okYes (by kernel_rfl) | omega) only [thenQ, List.map, dB, List.length, Nat.zero_add, Nat.reduceMul, envOf, ARun_none, AOpRun, aexec, FSt.ev, AGo_ok, St.app, putO, eput_c, Nat.reduceBEq, eput_n, cond_false, hups, ARun_nil, dropE_c, inL_n, dropE_n, Nat.reduceAdd, St.F, ↓eget_h, eget_c, dI, Int.reduceNeg, isSh, Bool.false_eq_true, ↓reduceIte, Option.map, abin, beq_self_eq_true, cond_true, inL_c])))
    all_goals (refine end_to [] [] (by first | exact .inl rfl | exact .inr rfl) rfl (by kernel_rfl) (by kernel_rfl) (by kernel_rfl) ?_ ?_ <;> repeat' (first | exact trivial | exact vr_val _))
  | some k =>
    have ha : l.any p = true := by
      rw [List.findIdx?_eq_some_iff_getElem] at h
      obtain ⟨hk, he, _⟩ := h
      exact List.any_eq_true.2 ⟨l[k], List.getElem_mem hk, he⟩
    rw [h] at hf
    rw [ha]
    have q : decide ((k : Int) ≥ 0) = true := decide_eq_true (by omega)
    (have hg : (987654321 : Nat) - 987654321 = 0 := rfl; have hr := hg; repeat' (first | refine aw_seq ?_ | (refine aw_skip ?_; try simp only [thenQ, blockQ, if_true, if_false, Nat.reduceEqDiff, reduceCtorEq]) | (refine aw_exit ?_; try simp only [thenQ, blockQ, if_true, if_false, Nat.reduceEqDiff, reduceCtorEq]) | refine aw_ret ?_ | refine aw_block ?_ | refine aw_condT rfl ?_ | refine aw_condF rfl ?_ | ((first | refine aw_region ?_ | refine acall0 (hf) ?_ | refine ago_if (by omega) ?_ | skip); simp (config := {maxSteps := 10000000}) (disch := first | exact okYes (by kernel_rfl) | omega) only [thenQ, List.map, dB, List.length, Nat.zero_add, Nat.reduceMul, envOf, ARun_none, AOpRun, aexec, FSt.ev, AGo_ok, St.app, putO, eput_c, Nat.reduceBEq, eput_n, cond_false, hups, ARun_nil, dropE_c, inL_n, dropE_n, Nat.reduceAdd, St.F, ↓eget_h, eget_c, dI, isSh, Bool.false_eq_true, ↓reduceIte, Option.map, abin, Int.natCast_nonneg, decide_true, beq_self_eq_true, cond_true, inL_c])))
    all_goals (refine end_to [] [] (by first | exact .inl rfl | exact .inr rfl) rfl (by kernel_rfl) (by kernel_rfl) (by kernel_rfl) ?_ ?_ <;> repeat' (first | exact trivial | exact vr_val _))
set_option maxRecDepth 100000 in
set_option maxHeartbeats 1000000 in
theorem scheck_ac (x : Int × Int) : AC Try.prog 77 [.list (sps [x])] [] [] (dI (if spVB x = true then 0 else 10)) := by
  have h1 : AC Try.prog 44 [.list (sps [x])] [] [] (dI (if spVB x = true then 0 else 10)) := by
    refine kspans_spanned.ac (n0 := 0) (by simp) ⟨.list _, trivial⟩ trivial rfl ?_
    unfold cspans_spanned
    have hc := cfsp_ac 81 (fun x => !spVB x) sspan1_ac [x] (by simp)
    cases h : spVB x with
    | true =>
      rw [show ([x].any fun x => !spVB x) = false by simp [h]] at hc
      rw [if_pos rfl]
      (have hg : (987654321 : Nat) - 987654321 = 0 := rfl; have hr := hg; repeat' (first | refine aw_seq ?_ | (refine aw_skip ?_; try simp only [thenQ, blockQ, if_true, if_false, Nat.reduceEqDiff, reduceCtorEq]) | (refine aw_exit ?_; try simp only [thenQ, blockQ, if_true, if_false, Nat.reduceEqDiff, reduceCtorEq]) | refine aw_ret ?_ | refine aw_block ?_ | refine aw_condT rfl ?_ | refine aw_condF rfl ?_ | ((first | refine aw_region ?_ | refine acall0 (hc) ?_ | refine ago_if (by omega) ?_ | skip); simp (config := {maxSteps := 10000000}) (disch := first | exact okYes (by kernel_rfl) | omega) only [thenQ, List.map, dI, List.length, Nat.zero_add, Nat.reduceMul, envOf, ARun_none, AOpRun, aexec, FSt.ev, AGo_ok, St.app, putO, eput_c, Nat.reduceBEq, eput_n, cond_false, hups, ARun_nil, dropE_c, inL_n, dropE_n, Nat.reduceAdd, St.F, ↓eget_h, eget_c, dB, inL_c, beq_self_eq_true, cond_true])))
      all_goals (refine end_to [] [] (by first | exact .inl rfl | exact .inr rfl) rfl (by kernel_rfl) (by kernel_rfl) (by kernel_rfl) ?_ ?_ <;> repeat' (first | exact trivial | exact vr_val _))
    | false =>
      rw [show ([x].any fun x => !spVB x) = true by simp [h]] at hc
      rw [if_neg (by simp)]
      (have hg : (987654321 : Nat) - 987654321 = 0 := rfl; have hr := hg; repeat' (first | refine aw_seq ?_ | (refine aw_skip ?_; try simp only [thenQ, blockQ, if_true, if_false, Nat.reduceEqDiff, reduceCtorEq]) | (refine aw_exit ?_; try simp only [thenQ, blockQ, if_true, if_false, Nat.reduceEqDiff, reduceCtorEq]) | refine aw_ret ?_ | refine aw_block ?_ | refine aw_condT rfl ?_ | refine aw_condF rfl ?_ | ((first | refine aw_region ?_ | refine acall0 (hc) ?_ | refine ago_if (by omega) ?_ | skip); simp (config := {maxSteps := 10000000}) (disch := first | exact okYes (by kernel_rfl) | omega) only [thenQ, List.map, dI, List.length, Nat.zero_add, Nat.reduceMul, envOf, ARun_none, AOpRun, aexec, FSt.ev, AGo_ok, St.app, putO, eput_c, Nat.reduceBEq, eput_n, cond_false, hups, ARun_nil, dropE_c, inL_n, dropE_n, Nat.reduceAdd, St.F, ↓eget_h, eget_c, dB, inL_c, beq_self_eq_true, cond_true])))
      all_goals (refine end_to [] [] (by first | exact .inl rfl | exact .inr rfl) rfl (by kernel_rfl) (by kernel_rfl) (by kernel_rfl) ?_ ?_ <;> repeat' (first | exact trivial | exact vr_val _))
  refine kspans_Check.ac (n0 := 0) (by simp) ⟨.list _, trivial⟩ trivial rfl ?_
  unfold cspans_Check
  have cw : AC Try.prog 74 [dI 1, dI 1, dI 3] [] [] (dB true) := swithin_ac 1 1 3
  generalize (if spVB x = true then (0 : Int) else 10) = E at *
  (have hg : (987654321 : Nat) - 987654321 = 0 := rfl; have hr := hg; repeat' (first | refine aw_seq ?_ | (refine aw_skip ?_; try simp only [thenQ, blockQ, if_true, if_false, Nat.reduceEqDiff, reduceCtorEq]) | (refine aw_exit ?_; try simp only [thenQ, blockQ, if_true, if_false, Nat.reduceEqDiff, reduceCtorEq]) | refine aw_ret ?_ | refine aw_block ?_ | refine aw_condT rfl ?_ | refine aw_condF rfl ?_ | ((first | refine aw_region ?_ | refine acall0 (cw) ?_ | refine acall0 (h1) ?_ | refine ago_if (by omega) ?_ | skip); simp (config := {maxSteps := 10000000}) (disch := first | exact okYes (by kernel_rfl) | omega) only [thenQ, List.map, dI, List.length, Nat.zero_add, Nat.reduceMul, envOf, ARun_none, AOpRun, aexec, FSt.ev, AGo_ok, St.app, putO, eput_c, Nat.reduceBEq, eput_n, cond_false, hups, ARun_nil, dropE_c, inL_n, dropE_n, Nat.reduceAdd, St.F, ↓eget_h, eget_c, sps_len, cast_lit, dB, Bool.not_true, inL_c, beq_self_eq_true, cond_true])))
  all_goals (refine end_to [] [] (by first | exact .inl rfl | exact .inr rfl) rfl (by kernel_rfl) (by kernel_rfl) (by kernel_rfl) ?_ ?_ <;> repeat' (first | exact trivial | exact vr_val _))
end Go.Proofs.Ytgibbaadjbohdaa
/- A vibration, its check and its average, in numbers. No conditions. -/
namespace Go.Proofs.Ytgibbaadjbohdaa
open Go.RowKit Lift

def iat (l : List Int) (k : Nat) : Int := l[k]?.getD 0
def allI (l : List Int) (a b : Int) : Bool := l.all fun x => wI x a b
theorem allI_get {l : List Int} {a b : Int} (h : allI l a b = true) (k : Nat) (hk : k < l.length) : a ≤ iat l k ∧ iat l k ≤ b := by
  have := List.all_eq_true.1 h l[k] (List.getElem_mem hk)
  have e : iat l k = l[k] := by simp [iat, hk]
  rw [e]; exact wI_t this
theorem allI_no {l : List Int} {a b : Int} {k : Nat} (hk : k < l.length) (h : wI (iat l k) a b = false) : allI l a b = false := by
  have e : iat l k = l[k] := by simp [iat, hk]
  exact List.all_eq_false.2 ⟨l[k], List.getElem_mem hk, by rw [← e, h]; simp⟩
structure VibOk (s m : List Int) : Prop where
  sl : s.length ≤ 400
  sb : ∀ k, k < s.length → -100 ≤ iat s k ∧ iat s k ≤ 100
  ml : 2 ≤ m.length
  mh : m.length ≤ 9
  mb : ∀ k, k < m.length → 0 ≤ iat m k ∧ iat m k ≤ (s.length : Int) - 1
  mr : ∀ k, k + 1 < m.length → iat m k < iat m (k + 1)
end Go.Proofs.Ytgibbaadjbohdaa
/- The functions' bodies, translated. Written by a program; no conditions. -/
namespace Go.Proofs.Ytgibbaadjbohdaa
open Go.RowKit Lift

/-- rotor_within -/
def crotor_within : ACode :=
  (.seq
   (.region false [⟨some 6, .mv (.const (.bool false)), none, []⟩] [])
  (.seq
   (.region false [⟨some 7, .mv (.tmp 0), none, []⟩,
     ⟨some 8, .mv (.tmp 1), none, []⟩,
     ⟨some 9, .bin .geq (.tmp 7) (.tmp 8), none, []⟩,
     ⟨some 10, .mv (.tmp 9), none, []⟩,
     ⟨some 11, .mv (.tmp 0), (some (some 10, true)), []⟩,
     ⟨some 12, .mv (.tmp 2), (some (some 10, true)), []⟩,
     ⟨some 13, .bin .leq (.tmp 11) (.tmp 12), (some (some 10, true)), []⟩,
     ⟨some 14, .pick (.tmp 10) (.tmp 13) (.const (.bool false)), none, []⟩,
     ⟨some 6, .mv (.tmp 14), none, []⟩] [7, 8, 9, 10, 11, 12, 13, 14])
  .ret))
set_option maxRecDepth 100000 in
theorem krotor_within : IsCode Try.prog 145 15 crotor_within [.tmp 6] :=
  ⟨Try.f145, _, [0, 1, 2, 6], Try.func145, rfl, by decide, rfl, by kernel_rfl, by kernel_rfl⟩
/-- rotor_limits_right -/
def crotor_limits_right : ACode :=
  (.seq
   (.region false [⟨some 1, .box (.tmp 0), none, []⟩,
     ⟨some 2, .mv (.const (.bool false)), none, []⟩] [])
  (.seq
   (.region false [⟨some 4, .mkfn 151 [] [(.tmp 1)], none, []⟩,
     ⟨some 3, .mem [(.val (.nilFunc))], none, []⟩,
     ⟨none, .store 1 (.tmp 3) (.tmp 4), none, []⟩] [4])
  (.seq
   (.region false [⟨some 5, .fad 0 (.tmp 1), none, []⟩,
     ⟨some 6, .loadN 3 (.tmp 5), none, []⟩,
     ⟨some 7, .call (.func 110) [(.tmp 6)], none, []⟩,
     ⟨some 8, .bin .eql (.tmp 7) (.const (.int .i64 0)), none, []⟩,
     ⟨some 9, .mv (.tmp 8), none, []⟩,
     ⟨some 10, .fad 0 (.tmp 1), (some (some 9, true)), []⟩,
     ⟨some 11, .fad 2 (.tmp 10), (some (some 9, true)), []⟩,
     ⟨some 12, .load1 (.tmp 11), (some (some 9, true)), []⟩,
     ⟨some 13, .mkfn 152 [] [(.tmp 3)], (some (some 9, true)), []⟩,
     ⟨some 14, .call (.func 138) [(.tmp 12), (.tmp 13)], (some (some 9, true)), []⟩,
     ⟨some 15, .un .not (.tmp 14), (some (some 9, true)), []⟩,
     ⟨some 16, .pick (.tmp 9) (.tmp 15) (.const (.bool false)), none, []⟩,
     ⟨some 2, .mv (.tmp 16), none, []⟩] [5, 6, 7, 8, 9, 10, 11, 12, 13, 14, 15, 16])
  .ret)))
set_option maxRecDepth 100000 in
theorem krotor_limits_right : IsCode Try.prog 143 17 crotor_limits_right [.tmp 2] :=
  ⟨Try.f143, _, [0, 1, 3, 2], Try.func143, rfl, by decide, rfl, by kernel_rfl, by kernel_rfl⟩
/-- rotor_limits_right_S1 -/
def crotor_limits_right_S1 : ACode :=
  (.seq
   (.region false [⟨some 3, .mv (.const (.bool false)), none, []⟩] [])
  (.seq
   (.region false [⟨some 4, .mv (.tmp 0), none, []⟩,
     ⟨some 5, .fad 3 (.tmp 1), none, []⟩,
     ⟨some 6, .load1 (.tmp 5), none, []⟩,
     ⟨some 7, .fad 4 (.tmp 1), none, []⟩,
     ⟨some 8, .load1 (.tmp 7), none, []⟩,
     ⟨some 9, .call (.func 145) [(.tmp 4), (.tmp 6), (.tmp 8)], none, []⟩,
     ⟨some 10, .un .not (.tmp 9), none, []⟩,
     ⟨some 3, .mv (.tmp 10), none, []⟩] [4, 5, 6, 7, 8, 9, 10])
  .ret))
set_option maxRecDepth 100000 in
theorem krotor_limits_right_S1 : IsCode Try.prog 151 11 crotor_limits_right_S1 [.tmp 3] :=
  ⟨Try.f151, _, [0, 1, 3], Try.func151, rfl, by decide, rfl, by kernel_rfl, by kernel_rfl⟩
/-- rotor_limits_right_S2 -/
def crotor_limits_right_S2 : ACode :=
  (.seq
   (.region false [⟨some 3, .mv (.const (.bool false)), none, []⟩] [])
  (.seq
   (.region false [⟨some 4, .mv (.tmp 0), none, []⟩,
     ⟨some 5, .load1 (.tmp 1), none, []⟩,
     ⟨some 6, .call (.func 94) [(.tmp 4), (.tmp 5)], none, []⟩,
     ⟨some 3, .mv (.tmp 6), none, []⟩] [4, 5, 6])
  .ret))
set_option maxRecDepth 100000 in
theorem krotor_limits_right_S2 : IsCode Try.prog 152 7 crotor_limits_right_S2 [.tmp 3] :=
  ⟨Try.f152, _, [0, 1, 3], Try.func152, rfl, by decide, rfl, by kernel_rfl, by kernel_rfl⟩
/-- rotor_Check -/
def crotor_Check : ACode :=
  (.seq
   (.region false [⟨some 1, .box (.tmp 0), none, []⟩,
     ⟨some 2, .mv (.const (.int .i64 0)), none, []⟩] [])
  (.seq
   (.seq
    (.region false [⟨some 11, .fad 0 (.tmp 1), none, []⟩,
      ⟨some 12, .loadN 3 (.tmp 11), none, []⟩,
      ⟨some 13, .build [(.val (.slice none 0 0)), (.val (.slice none 0 0)), (.val (.slice none 0 0)), (.val (.int .i64 0)), (.val (.int .i64 0))] [(0, 3, (.tmp 12)), (3, 1, (.const (.int .i64 0))), (4, 1, (.const (.int .i64 100000)))], none, []⟩,
      ⟨some 14, .fad 3 (.tmp 1), none, []⟩,
      ⟨some 15, .loadN 3 (.tmp 14), none, []⟩,
      ⟨some 16, .build [(.val (.slice none 0 0)), (.val (.slice none 0 0)), (.val (.slice none 0 0)), (.val (.int .i64 0)), (.val (.int .i64 0))] [(0, 3, (.tmp 15)), (3, 1, (.const (.int .i64 0))), (4, 1, (.const (.int .i64 100)))], none, []⟩,
      ⟨some 17, .fad 6 (.tmp 1), none, []⟩,
      ⟨some 18, .loadN 3 (.tmp 17), none, []⟩,
      ⟨some 19, .build [(.val (.slice none 0 0)), (.val (.slice none 0 0)), (.val (.slice none 0 0)), (.val (.int .i64 0)), (.val (.int .i64 0))] [(0, 3, (.tmp 18)), (3, 1, (.const (.int .i64 0))), (4, 1, (.const (.int .i64 100000)))], none, []⟩,
      ⟨some 20, .fad 9 (.tmp 1), none, []⟩,
      ⟨some 21, .loadN 3 (.tmp 20), none, []⟩,
      ⟨some 22, .build [(.val (.slice none 0 0)), (.val (.slice none 0 0)), (.val (.slice none 0 0)), (.val (.int .i64 0)), (.val (.int .i64 0))] [(0, 3, (.tmp 21)), (3, 1, (.const (.int .i64 0))), (4, 1, (.const (.int .i64 100000)))], none, []⟩,
      ⟨some 23, .fad 12 (.tmp 1), none, []⟩,
      ⟨some 24, .loadN 3 (.tmp 23), none, []⟩,
      ⟨some 25, .build [(.val (.slice none 0 0)), (.val (.slice none 0 0)), (.val (.slice none 0 0)), (.val (.int .i64 0)), (.val (.int .i64 0))] [(0, 3, (.tmp 24)), (3, 1, (.const (.int .i64 0))), (4, 1, (.const (.int .i64 10000)))], none, []⟩,
      ⟨some 26, .fad 15 (.tmp 1), none, []⟩,
      ⟨some 27, .loadN 3 (.tmp 26), none, []⟩,
      ⟨some 28, .build [(.val (.slice none 0 0)), (.val (.slice none 0 0)), (.val (.slice none 0 0)), (.val (.int .i64 0)), (.val (.int .i64 0))] [(0, 3, (.tmp 27)), (3, 1, (.const (.int .i64 0))), (4, 1, (.const (.int .i64 10000)))], none, []⟩,
      ⟨some 29, .fad 18 (.tmp 1), none, []⟩,
      ⟨some 30, .loadN 3 (.tmp 29), none, []⟩,
      ⟨some 31, .build [(.val (.slice none 0 0)), (.val (.slice none 0 0)), (.val (.slice none 0 0)), (.val (.int .i64 0)), (.val (.int .i64 0))] [(0, 3, (.tmp 30)), (3, 1, (.const (.int .i64 0))), (4, 1, (.const (.int .i64 10000)))], none, []⟩,
      ⟨some 32, .fad 21 (.tmp 1), none, []⟩,
      ⟨some 33, .loadN 3 (.tmp 32), none, []⟩,
      ⟨some 34, .build [(.val (.slice none 0 0)), (.val (.slice none 0 0)), (.val (.slice none 0 0)), (.val (.int .i64 0)), (.val (.int .i64 0))] [(0, 3, (.tmp 33)), (3, 1, (.const (.int .i64 1))), (4, 1, (.const (.int .i64 10000)))], none, []⟩,
      ⟨some 35, .buildSl 5 8 [(.val (.slice none 0 0)), (.val (.slice none 0 0)), (.val (.slice none 0 0)), (.val (.int .i64 0)), (.val (.int .i64 0)), (.val (.slice none 0 0)), (.val (.slice none 0 0)), (.val (.slice none 0 0)), (.val (.int .i64 0)), (.val (.int .i64 0)), (.val (.slice none 0 0)), (.val (.slice none 0 0)), (.val (.slice none 0 0)), (.val (.int .i64 0)), (.val (.int .i64 0)), (.val (.slice none 0 0)), (.val (.slice none 0 0)), (.val (.slice none 0 0)), (.val (.int .i64 0)), (.val (.int .i64 0)), (.val (.slice none 0 0)), (.val (.slice none 0 0)), (.val (.slice none 0 0)), (.val (.int .i64 0)), (.val (.int .i64 0)), (.val (.slice none 0 0)), (.val (.slice none 0 0)), (.val (.slice none 0 0)), (.val (.int .i64 0)), (.val (.int .i64 0)), (.val (.slice none 0 0)), (.val (.slice none 0 0)), (.val (.slice none 0 0)), (.val (.int .i64 0)), (.val (.int .i64 0)), (.val (.slice none 0 0)), (.val (.slice none 0 0)), (.val (.slice none 0 0)), (.val (.int .i64 0)), (.val (.int .i64 0))] [(0, 5, (.tmp 13)), (5, 5, (.tmp 16)), (10, 5, (.tmp 19)), (15, 5, (.tmp 22)), (20, 5, (.tmp 25)), (25, 5, (.tmp 28)), (30, 5, (.tmp 31)), (35, 5, (.tmp 34))], none, []⟩,
      ⟨some 36, .len_ (.tmp 35), none, []⟩,
      ⟨some 37, .mv (.const (.int .i64 0)), none, []⟩] [11, 12, 13, 14, 15, 16, 17, 18, 19, 20, 21, 22, 23, 24, 25, 26, 27, 28, 29, 30, 31, 32, 33, 34])
   (.block 0
     (.loop
       (.seq
        (.region false [⟨some 38, .bin .lss (.tmp 37) (.tmp 36), none, []⟩] [])
       (.seq
        (.cond (.tmp 38)
          .skip
          (.exit 0))
       (.seq
        (.block 1
          (.seq
           (.region false [⟨some 39, .iadS 5 (.tmp 35) (.tmp 37), none, []⟩,
             ⟨some 40, .loadN 5 (.tmp 39), none, []⟩,
             ⟨some 4, .mem [(.val (.slice none 0 0)), (.val (.slice none 0 0)), (.val (.slice none 0 0)), (.val (.int .i64 0)), (.val (.int .i64 0))], none, []⟩,
             ⟨none, .store 5 (.tmp 4) (.tmp 40), none, []⟩] [39, 40])
          (.seq
           (.region false [⟨some 41, .loadN 5 (.tmp 4), none, []⟩,
             ⟨some 42, .call (.func 143) [(.tmp 41)], none, []⟩,
             ⟨some 43, .un .not (.tmp 42), none, []⟩] [41, 42])
          (.cond (.tmp 43)
            (.seq
             (.region false [⟨some 2, .mv (.const (.int .i64 20)), none, []⟩] [])
            .ret)
            .skip))))
       (.region false [⟨some 44, .bin .add (.tmp 37) (.const (.int .i64 1)), none, []⟩,
         ⟨some 37, .mv (.tmp 44), none, []⟩] [44])))))))
  (.seq
   (.region true [⟨some 45, .fad 15 (.tmp 1), none, []⟩,
     ⟨some 46, .loadN 3 (.tmp 45), none, [0]⟩,
     ⟨some 47, .fad 18 (.tmp 1), none, []⟩,
     ⟨some 48, .loadN 3 (.tmp 47), none, [2]⟩,
     ⟨some 5, .mem [(.val (.slice none 0 0)), (.val (.slice none 0 0)), (.val (.slice none 0 0))], none, []⟩,
     ⟨some 6, .mem [(.val (.slice none 0 0)), (.val (.slice none 0 0)), (.val (.slice none 0 0))], none, []⟩,
     ⟨none, .store 3 (.tmp 5) (.tmp 46), none, [4, 1, 0, 5]⟩,
     ⟨none, .store 3 (.tmp 6) (.tmp 48), none, [5, 3, 2, 6, 4, 1, 0]⟩] [45, 46, 47, 48])
  (.seq
   (.seq
    (.region false [⟨some 49, .fad 0 (.tmp 5), none, []⟩,
      ⟨some 50, .load1 (.tmp 49), none, []⟩,
      ⟨some 51, .fad 0 (.tmp 6), none, []⟩,
      ⟨some 52, .load1 (.tmp 51), none, []⟩,
      ⟨some 53, .call (.func 144) [(.tmp 50), (.tmp 52)], none, []⟩,
      ⟨some 54, .un .not (.tmp 53), none, []⟩,
      ⟨some 55, .mv (.tmp 54), none, []⟩,
      ⟨some 56, .fad 1 (.tmp 5), (some (some 55, false)), []⟩,
      ⟨some 57, .load1 (.tmp 56), (some (some 55, false)), []⟩,
      ⟨some 58, .fad 1 (.tmp 6), (some (some 55, false)), []⟩,
      ⟨some 59, .load1 (.tmp 58), (some (some 55, false)), []⟩,
      ⟨some 60, .call (.func 144) [(.tmp 57), (.tmp 59)], (some (some 55, false)), []⟩,
      ⟨some 61, .un .not (.tmp 60), (some (some 55, false)), []⟩,
      ⟨some 62, .pick (.tmp 55) (.const (.bool true)) (.tmp 61), none, []⟩,
      ⟨some 63, .mv (.tmp 62), none, []⟩,
      ⟨some 64, .fad 24 (.tmp 1), (some (some 63, false)), []⟩,
      ⟨some 65, .load1 (.tmp 64), (some (some 63, false)), []⟩,
      ⟨some 66, .call (.func 145) [(.tmp 65), (.const (.int .i64 1)), (.const (.int .i64 1000))], (some (some 63, false)), []⟩,
      ⟨some 67, .un .not (.tmp 66), (some (some 63, false)), []⟩,
      ⟨some 68, .pick (.tmp 63) (.const (.bool true)) (.tmp 67), none, []⟩,
      ⟨some 69, .mv (.tmp 68), none, []⟩,
      ⟨some 70, .fad 25 (.tmp 1), (some (some 69, false)), []⟩,
      ⟨some 71, .load1 (.tmp 70), (some (some 69, false)), []⟩,
      ⟨some 72, .call (.func 145) [(.tmp 71), (.const (.int .i64 1)), (.const (.int .i64 1000))], (some (some 69, false)), []⟩,
      ⟨some 73, .un .not (.tmp 72), (some (some 69, false)), []⟩,
      ⟨some 74, .pick (.tmp 69) (.const (.bool true)) (.tmp 73), none, []⟩] [49, 50, 51, 52, 53, 54, 55, 56, 57, 58, 59, 60, 61, 62, 63, 64, 65, 66, 67, 68, 69, 70, 71, 72, 73])
   (.cond (.tmp 74)
     (.seq
      (.region false [⟨some 2, .mv (.const (.int .i64 20)), none, []⟩] [])
     .ret)
     .skip))
  (.seq
   (.seq
    (.region false [⟨some 75, .fad 2 (.tmp 5), none, []⟩,
      ⟨some 76, .load1 (.tmp 75), none, []⟩,
      ⟨some 77, .len_ (.tmp 76), none, []⟩,
      ⟨some 78, .mv (.const (.int .i64 0)), none, []⟩] [75])
   (.block 2
     (.loop
       (.seq
        (.region false [⟨some 79, .bin .lss (.tmp 78) (.tmp 77), none, []⟩] [])
       (.seq
        (.cond (.tmp 79)
          .skip
          (.exit 2))
       (.seq
        (.block 3
          (.seq
           (.region false [⟨some 80, .mv (.tmp 78), none, []⟩,
             ⟨some 81, .iadS 1 (.tmp 76) (.tmp 78), none, []⟩,
             ⟨some 82, .load1 (.tmp 81), none, []⟩,
             ⟨some 7, .mv (.tmp 80), none, []⟩,
             ⟨some 8, .mv (.tmp 82), none, []⟩] [80, 81, 82])
          (.seq
           (.region false [⟨some 83, .mv (.tmp 8), none, []⟩,
             ⟨some 84, .len_ (.tmp 83), none, []⟩,
             ⟨some 85, .mv (.const (.int .i64 0)), none, []⟩] [])
          (.block 4
            (.loop
              (.seq
               (.region false [⟨some 86, .bin .lss (.tmp 85) (.tmp 84), none, []⟩] [])
              (.seq
               (.cond (.tmp 86)
                 .skip
                 (.exit 4))
              (.seq
               (.block 5
                 (.seq
                  (.region false [⟨some 87, .mv (.tmp 85), none, []⟩,
                    ⟨some 88, .iadS 1 (.tmp 83) (.tmp 85), none, []⟩,
                    ⟨some 89, .load1 (.tmp 88), none, []⟩,
                    ⟨some 9, .mv (.tmp 87), none, []⟩,
                    ⟨some 10, .mv (.tmp 89), none, []⟩] [87, 88, 89])
                 (.seq
                  (.region false [⟨some 90, .mv (.tmp 10), none, []⟩,
                    ⟨some 91, .fad 2 (.tmp 6), none, []⟩,
                    ⟨some 92, .load1 (.tmp 91), none, []⟩,
                    ⟨some 93, .mv (.tmp 7), none, []⟩,
                    ⟨some 94, .iadS 1 (.tmp 92) (.tmp 93), none, []⟩,
                    ⟨some 95, .load1 (.tmp 94), none, []⟩,
                    ⟨some 96, .mv (.tmp 9), none, []⟩,
                    ⟨some 97, .iadS 1 (.tmp 95) (.tmp 96), none, []⟩,
                    ⟨some 98, .load1 (.tmp 97), none, []⟩,
                    ⟨some 99, .bin .gtr (.tmp 90) (.tmp 98), none, []⟩] [90, 91, 92, 93, 94, 95, 96, 97, 98])
                 (.cond (.tmp 99)
                   (.seq
                    (.region false [⟨some 2, .mv (.const (.int .i64 20)), none, []⟩] [])
                   .ret)
                   .skip))))
              (.region false [⟨some 100, .bin .add (.tmp 85) (.const (.int .i64 1)), none, []⟩,
                ⟨some 85, .mv (.tmp 100), none, []⟩] [100])))))))))
       (.region false [⟨some 101, .bin .add (.tmp 78) (.const (.int .i64 1)), none, []⟩,
         ⟨some 78, .mv (.tmp 101), none, []⟩] [101])))))))
  (.seq
   (.region false [⟨some 2, .mv (.const (.int .i64 0)), none, []⟩] [])
  .ret))))))
set_option maxRecDepth 100000 in
theorem krotor_Check : IsCode Try.prog 119 102 crotor_Check [.tmp 2] :=
  ⟨Try.f119, _, [99, 86, 79, 74, 43, 38, 0, 1, 37, 36, 35, 4, 5, 6, 78, 77, 76, 8, 85, 84, 83, 10, 7, 9, 2], Try.func119, rfl, by decide, rfl, by kernel_rfl, by kernel_rfl⟩
/-- rotor_valid -/
def crotor_valid : ACode :=
  (.seq
   (.region false [⟨some 1, .box (.tmp 0), none, []⟩,
     ⟨some 2, .mv (.const (.bool false)), none, []⟩] [])
  (.seq
   (.region false [⟨some 3, .loadN 2 (.tmp 1), none, []⟩,
     ⟨some 4, .buildSl 2 1 [(.val (.int .i64 0)), (.val (.int .i64 0))] [(0, 2, (.tmp 3))], none, []⟩,
     ⟨some 5, .call (.func 77) [(.tmp 4)], none, []⟩,
     ⟨some 6, .bin .eql (.tmp 5) (.const (.int .i64 0)), none, []⟩,
     ⟨some 2, .mv (.tmp 6), none, []⟩] [3, 4, 5, 6])
  .ret))
set_option maxRecDepth 100000 in
theorem krotor_valid : IsCode Try.prog 120 7 crotor_valid [.tmp 2] :=
  ⟨Try.f120, _, [0, 1, 2], Try.func120, rfl, by decide, rfl, by kernel_rfl, by kernel_rfl⟩
/-- rotor_check_S1 -/
def crotor_check_S1 : ACode :=
  (.seq
   (.region false [⟨some 1, .box (.tmp 0), none, []⟩,
     ⟨some 2, .mv (.const (.bool false)), none, []⟩] [])
  (.seq
   (.region false [⟨some 3, .loadN 2 (.tmp 1), none, []⟩,
     ⟨some 4, .call (.func 120) [(.tmp 3)], none, []⟩,
     ⟨some 5, .un .not (.tmp 4), none, []⟩,
     ⟨some 2, .mv (.tmp 5), none, []⟩] [3, 4, 5])
  .ret))
set_option maxRecDepth 100000 in
theorem krotor_check_S1 : IsCode Try.prog 121 6 crotor_check_S1 [.tmp 2] :=
  ⟨Try.f121, _, [0, 1, 2], Try.func121, rfl, by decide, rfl, by kernel_rfl, by kernel_rfl⟩
/-- rotor_check_S2 -/
def crotor_check_S2 : ACode :=
  (.seq
   (.region false [⟨some 1, .box (.tmp 0), none, []⟩,
     ⟨some 2, .mv (.const (.bool false)), none, []⟩] [])
  (.seq
   (.region false [⟨some 3, .loadN 7 (.tmp 1), none, []⟩,
     ⟨some 4, .call (.func 124) [(.tmp 3)], none, []⟩,
     ⟨some 5, .un .not (.tmp 4), none, []⟩,
     ⟨some 2, .mv (.tmp 5), none, []⟩] [3, 4, 5])
  .ret))
set_option maxRecDepth 100000 in
theorem krotor_check_S2 : IsCode Try.prog 123 6 crotor_check_S2 [.tmp 2] :=
  ⟨Try.f123, _, [0, 1, 2], Try.func123, rfl, by decide, rfl, by kernel_rfl, by kernel_rfl⟩
/-- rotor_looked_lies -/
def crotor_looked_lies : ACode :=
  (.seq
   (.region false [⟨some 1, .box (.tmp 0), none, []⟩,
     ⟨some 2, .mv (.const (.bool false)), none, []⟩] [])
  (.seq
   (.region true [⟨some 3, .fad 3 (.tmp 1), none, []⟩,
     ⟨some 4, .fad 0 (.tmp 3), none, [0]⟩,
     ⟨some 5, .load1 (.tmp 4), none, [1, 0]⟩,
     ⟨some 6, .fad 0 (.tmp 1), none, []⟩,
     ⟨some 7, .fad 0 (.tmp 6), none, [3]⟩,
     ⟨some 8, .load1 (.tmp 7), none, [4, 3]⟩,
     ⟨some 9, .iadS 1 (.tmp 8) (.const (.int .i64 0)), none, [5, 4, 3]⟩,
     ⟨some 10, .load1 (.tmp 9), none, [6, 5, 4, 3]⟩,
     ⟨some 11, .bin .geq (.tmp 5) (.tmp 10), none, [2, 1, 0, 7, 6, 5, 4, 3]⟩,
     ⟨some 12, .mv (.tmp 11), none, [8, 2, 1, 0, 7, 6, 5, 4, 3]⟩,
     ⟨some 13, .fad 3 (.tmp 1), (some (some 12, true)), [9, 8, 2, 1, 0, 7, 6, 5, 4, 3]⟩,
     ⟨some 14, .fad 1 (.tmp 13), (some (some 12, true)), [10, 9, 8, 2, 1, 0, 7, 6, 5, 4, 3]⟩,
     ⟨some 15, .load1 (.tmp 14), (some (some 12, true)), [11, 10, 9, 8, 2, 1, 0, 7, 6, 5, 4, 3]⟩,
     ⟨some 16, .fad 0 (.tmp 1), (some (some 12, true)), [9, 8, 2, 1, 0, 7, 6, 5, 4, 3]⟩,
     ⟨some 17, .fad 0 (.tmp 16), (some (some 12, true)), [13, 9, 8, 2, 1, 0, 7, 6, 5, 4, 3]⟩,
     ⟨some 18, .load1 (.tmp 17), (some (some 12, true)), [14, 13, 9, 8, 2, 1, 0, 7, 6, 5, 4, 3]⟩,
     ⟨some 19, .fad 0 (.tmp 1), (some (some 12, true)), [9, 8, 2, 1, 0, 7, 6, 5, 4, 3]⟩,
     ⟨some 20, .fad 0 (.tmp 19), (some (some 12, true)), [16, 9, 8, 2, 1, 0, 7, 6, 5, 4, 3]⟩,
     ⟨some 21, .load1 (.tmp 20), (some (some 12, true)), [17, 16, 9, 8, 2, 1, 0, 7, 6, 5, 4, 3]⟩,
     ⟨some 22, .len_ (.tmp 21), (some (some 12, true)), [18, 17, 16, 9, 8, 2, 1, 0, 7, 6, 5, 4, 3]⟩,
     ⟨some 23, .bin .sub (.tmp 22) (.const (.int .i64 1)), (some (some 12, true)), [19, 18, 17, 16, 9, 8, 2, 1, 0, 7, 6, 5, 4, 3]⟩,
     ⟨some 24, .iadS 1 (.tmp 18) (.tmp 23), (some (some 12, true)), [15, 14, 13, 9, 8, 2, 1, 0, 7, 6, 5, 4, 3, 20, 19, 18, 17, 16]⟩,
     ⟨some 25, .load1 (.tmp 24), (some (some 12, true)), [21, 15, 14, 13, 9, 8, 2, 1, 0, 7, 6, 5, 4, 3, 20, 19, 18, 17, 16]⟩,
     ⟨some 26, .bin .leq (.tmp 15) (.tmp 25), (some (some 12, true)), [12, 11, 10, 9, 8, 2, 1, 0, 7, 6, 5, 4, 3, 22, 21, 15, 14, 13, 20, 19, 18, 17, 16]⟩,
     ⟨some 27, .pick (.tmp 12) (.tmp 26) (.const (.bool false)), none, [9, 8, 2, 1, 0, 7, 6, 5, 4, 3, 23, 12, 11, 10, 22, 21, 15, 14, 13, 20, 19, 18, 17, 16]⟩,
     ⟨some 28, .mv (.tmp 27), none, [24, 9, 8, 2, 1, 0, 7, 6, 5, 4, 3, 23, 12, 11, 10, 22, 21, 15, 14, 13, 20, 19, 18, 17, 16]⟩,
     ⟨some 29, .fad 5 (.tmp 1), (some (some 28, true)), [25, 24, 9, 8, 2, 1, 0, 7, 6, 5, 4, 3, 23, 12, 11, 10, 22, 21, 15, 14, 13, 20, 19, 18, 17, 16]⟩,
     ⟨some 30, .fad 0 (.tmp 29), (some (some 28, true)), [26, 25, 24, 9, 8, 2, 1, 0, 7, 6, 5, 4, 3, 23, 12, 11, 10, 22, 21, 15, 14, 13, 20, 19, 18, 17, 16]⟩,
     ⟨some 31, .load1 (.tmp 30), (some (some 28, true)), [27, 26, 25, 24, 9, 8, 2, 1, 0, 7, 6, 5, 4, 3, 23, 12, 11, 10, 22, 21, 15, 14, 13, 20, 19, 18, 17, 16]⟩,
     ⟨some 32, .fad 0 (.tmp 1), (some (some 28, true)), [25, 24, 9, 8, 2, 1, 0, 7, 6, 5, 4, 3, 23, 12, 11, 10, 22, 21, 15, 14, 13, 20, 19, 18, 17, 16]⟩,
     ⟨some 33, .fad 1 (.tmp 32), (some (some 28, true)), [29, 25, 24, 9, 8, 2, 1, 0, 7, 6, 5, 4, 3, 23, 12, 11, 10, 22, 21, 15, 14, 13, 20, 19, 18, 17, 16]⟩,
     ⟨some 34, .load1 (.tmp 33), (some (some 28, true)), [30, 29, 25, 24, 9, 8, 2, 1, 0, 7, 6, 5, 4, 3, 23, 12, 11, 10, 22, 21, 15, 14, 13, 20, 19, 18, 17, 16]⟩,
     ⟨some 35, .iadS 1 (.tmp 34) (.const (.int .i64 0)), (some (some 28, true)), [31, 30, 29, 25, 24, 9, 8, 2, 1, 0, 7, 6, 5, 4, 3, 23, 12, 11, 10, 22, 21, 15, 14, 13, 20, 19, 18, 17, 16]⟩,
     ⟨some 36, .load1 (.tmp 35), (some (some 28, true)), [32, 31, 30, 29, 25, 24, 9, 8, 2, 1, 0, 7, 6, 5, 4, 3, 23, 12, 11, 10, 22, 21, 15, 14, 13, 20, 19, 18, 17, 16]⟩,
     ⟨some 37, .bin .geq (.tmp 31) (.tmp 36), (some (some 28, true)), [28, 27, 26, 25, 24, 9, 8, 2, 1, 0, 7, 6, 5, 4, 3, 23, 12, 11, 10, 22, 21, 15, 14, 13, 20, 19, 18, 17, 16, 33, 32, 31, 30, 29]⟩,
     ⟨some 38, .pick (.tmp 28) (.tmp 37) (.const (.bool false)), none, [25, 24, 9, 8, 2, 1, 0, 7, 6, 5, 4, 3, 23, 12, 11, 10, 22, 21, 15, 14, 13, 20, 19, 18, 17, 16, 34, 28, 27, 26, 33, 32, 31, 30, 29]⟩,
     ⟨some 39, .mv (.tmp 38), none, [35, 25, 24, 9, 8, 2, 1, 0, 7, 6, 5, 4, 3, 23, 12, 11, 10, 22, 21, 15, 14, 13, 20, 19, 18, 17, 16, 34, 28, 27, 26, 33, 32, 31, 30, 29]⟩,
     ⟨some 40, .fad 5 (.tmp 1), (some (some 39, true)), [36, 35, 25, 24, 9, 8, 2, 1, 0, 7, 6, 5, 4, 3, 23, 12, 11, 10, 22, 21, 15, 14, 13, 20, 19, 18, 17, 16, 34, 28, 27, 26, 33, 32, 31, 30, 29]⟩,
     ⟨some 41, .fad 1 (.tmp 40), (some (some 39, true)), [37, 36, 35, 25, 24, 9, 8, 2, 1, 0, 7, 6, 5, 4, 3, 23, 12, 11, 10, 22, 21, 15, 14, 13, 20, 19, 18, 17, 16, 34, 28, 27, 26, 33, 32, 31, 30, 29]⟩,
     ⟨some 42, .load1 (.tmp 41), (some (some 39, true)), [38, 37, 36, 35, 25, 24, 9, 8, 2, 1, 0, 7, 6, 5, 4, 3, 23, 12, 11, 10, 22, 21, 15, 14, 13, 20, 19, 18, 17, 16, 34, 28, 27, 26, 33, 32, 31, 30, 29]⟩,
     ⟨some 43, .fad 0 (.tmp 1), (some (some 39, true)), [36, 35, 25, 24, 9, 8, 2, 1, 0, 7, 6, 5, 4, 3, 23, 12, 11, 10, 22, 21, 15, 14, 13, 20, 19, 18, 17, 16, 34, 28, 27, 26, 33, 32, 31, 30, 29]⟩,
     ⟨some 44, .fad 1 (.tmp 43), (some (some 39, true)), [40, 36, 35, 25, 24, 9, 8, 2, 1, 0, 7, 6, 5, 4, 3, 23, 12, 11, 10, 22, 21, 15, 14, 13, 20, 19, 18, 17, 16, 34, 28, 27, 26, 33, 32, 31, 30, 29]⟩,
     ⟨some 45, .load1 (.tmp 44), (some (some 39, true)), [41, 40, 36, 35, 25, 24, 9, 8, 2, 1, 0, 7, 6, 5, 4, 3, 23, 12, 11, 10, 22, 21, 15, 14, 13, 20, 19, 18, 17, 16, 34, 28, 27, 26, 33, 32, 31, 30, 29]⟩,
     ⟨some 46, .fad 0 (.tmp 1), (some (some 39, true)), [36, 35, 25, 24, 9, 8, 2, 1, 0, 7, 6, 5, 4, 3, 23, 12, 11, 10, 22, 21, 15, 14, 13, 20, 19, 18, 17, 16, 34, 28, 27, 26, 33, 32, 31, 30, 29]⟩,
     ⟨some 47, .fad 1 (.tmp 46), (some (some 39, true)), [43, 36, 35, 25, 24, 9, 8, 2, 1, 0, 7, 6, 5, 4, 3, 23, 12, 11, 10, 22, 21, 15, 14, 13, 20, 19, 18, 17, 16, 34, 28, 27, 26, 33, 32, 31, 30, 29]⟩,
     ⟨some 48, .load1 (.tmp 47), (some (some 39, true)), [44, 43, 36, 35, 25, 24, 9, 8, 2, 1, 0, 7, 6, 5, 4, 3, 23, 12, 11, 10, 22, 21, 15, 14, 13, 20, 19, 18, 17, 16, 34, 28, 27, 26, 33, 32, 31, 30, 29]⟩,
     ⟨some 49, .len_ (.tmp 48), (some (some 39, true)), [45, 44, 43, 36, 35, 25, 24, 9, 8, 2, 1, 0, 7, 6, 5, 4, 3, 23, 12, 11, 10, 22, 21, 15, 14, 13, 20, 19, 18, 17, 16, 34, 28, 27, 26, 33, 32, 31, 30, 29]⟩,
     ⟨some 50, .bin .sub (.tmp 49) (.const (.int .i64 1)), (some (some 39, true)), [46, 45, 44, 43, 36, 35, 25, 24, 9, 8, 2, 1, 0, 7, 6, 5, 4, 3, 23, 12, 11, 10, 22, 21, 15, 14, 13, 20, 19, 18, 17, 16, 34, 28, 27, 26, 33, 32, 31, 30, 29]⟩,
     ⟨some 51, .iadS 1 (.tmp 45) (.tmp 50), (some (some 39, true)), [42, 41, 40, 36, 35, 25, 24, 9, 8, 2, 1, 0, 7, 6, 5, 4, 3, 23, 12, 11, 10, 22, 21, 15, 14, 13, 20, 19, 18, 17, 16, 34, 28, 27, 26, 33, 32, 31, 30, 29, 47, 46, 45, 44, 43]⟩,
     ⟨some 52, .load1 (.tmp 51), (some (some 39, true)), [48, 42, 41, 40, 36, 35, 25, 24, 9, 8, 2, 1, 0, 7, 6, 5, 4, 3, 23, 12, 11, 10, 22, 21, 15, 14, 13, 20, 19, 18, 17, 16, 34, 28, 27, 26, 33, 32, 31, 30, 29, 47, 46, 45, 44, 43]⟩,
     ⟨some 53, .bin .leq (.tmp 42) (.tmp 52), (some (some 39, true)), [39, 38, 37, 36, 35, 25, 24, 9, 8, 2, 1, 0, 7, 6, 5, 4, 3, 23, 12, 11, 10, 22, 21, 15, 14, 13, 20, 19, 18, 17, 16, 34, 28, 27, 26, 33, 32, 31, 30, 29, 49, 48, 42, 41, 40, 47, 46, 45, 44, 43]⟩,
     ⟨some 54, .pick (.tmp 39) (.tmp 53) (.const (.bool false)), none, [36, 35, 25, 24, 9, 8, 2, 1, 0, 7, 6, 5, 4, 3, 23, 12, 11, 10, 22, 21, 15, 14, 13, 20, 19, 18, 17, 16, 34, 28, 27, 26, 33, 32, 31, 30, 29, 50, 39, 38, 37, 49, 48, 42, 41, 40, 47, 46, 45, 44, 43]⟩,
     ⟨some 2, .mv (.tmp 54), none, [51, 36, 35, 25, 24, 9, 8, 2, 1, 0, 7, 6, 5, 4, 3, 23, 12, 11, 10, 22, 21, 15, 14, 13, 20, 19, 18, 17, 16, 34, 28, 27, 26, 33, 32, 31, 30, 29, 50, 39, 38, 37, 49, 48, 42, 41, 40, 47, 46, 45, 44, 43]⟩] [3, 4, 5, 6, 7, 8, 9, 10, 11, 12, 13, 14, 15, 16, 17, 18, 19, 20, 21, 22, 23, 24, 25, 26, 27, 28, 29, 30, 31, 32, 33, 34, 35, 36, 37, 38, 39, 40, 41, 42, 43, 44, 45, 46, 47, 48, 49, 50, 51, 52, 53, 54])
  .ret))
set_option maxRecDepth 100000 in
theorem krotor_looked_lies : IsCode Try.prog 124 55 crotor_looked_lies [.tmp 2] :=
  ⟨Try.f124, _, [0, 1, 2], Try.func124, rfl, by decide, rfl, by kernel_rfl, by kernel_rfl⟩
/-- rotor_looked_bound -/
def crotor_looked_bound : ACode :=
  (.seq
   (.region false [⟨some 1, .box (.tmp 0), none, []⟩,
     ⟨some 2, .mem [(.val (.int .i64 0)), (.val (.int .i64 0))], none, []⟩] [])
  (.seq
   (.region false [⟨some 6, .fad 0 (.tmp 1), none, []⟩,
     ⟨some 7, .loadN 3 (.tmp 6), none, []⟩,
     ⟨some 8, .fad 3 (.tmp 1), none, []⟩,
     ⟨some 9, .loadN 2 (.tmp 8), none, []⟩,
     ⟨some 10, .fad 5 (.tmp 1), none, []⟩,
     ⟨some 11, .loadN 2 (.tmp 10), none, []⟩,
     ⟨some 12, .call (.func 33) [(.tmp 7), (.tmp 9), (.tmp 11)], none, []⟩,
     ⟨some 5, .mv (.tmp 12), none, []⟩,
     ⟨some 13, .ext (.tmp 5) 0, none, []⟩,
     ⟨some 14, .ext (.tmp 5) 1, none, []⟩,
     ⟨some 3, .mem [(.val (.int .i64 0)), (.val (.int .i64 0))], none, []⟩,
     ⟨none, .store 2 (.tmp 3) (.tmp 13), none, []⟩,
     ⟨some 4, .mv (.tmp 14), none, []⟩] [6, 7, 8, 9, 10, 11, 12, 5, 13, 14, 4])
  (.seq
   (.region false [⟨some 15, .loadN 2 (.tmp 3), none, []⟩,
     ⟨none, .store 2 (.tmp 2) (.tmp 15), none, []⟩] [15])
  .ret)))
set_option maxRecDepth 100000 in
theorem krotor_looked_bound : IsCode Try.prog 73 16 crotor_looked_bound [.cellN 2 2] :=
  ⟨Try.f73, _, [0, 1, 3, 2], Try.func73, rfl, by decide, rfl, by kernel_rfl, by kernel_rfl⟩
/-- slices_Equal_L_L_Jint_Kint_J -/
def cslices_Equal_L_L_Jint_Kint_J : ACode :=
  (.seq
   (.region false [⟨some 4, .mv (.const (.bool false)), none, []⟩] [])
  (.seq
   (.seq
    (.region false [⟨some 6, .mv (.tmp 0), none, []⟩,
      ⟨some 7, .len_ (.tmp 6), none, []⟩,
      ⟨some 8, .mv (.tmp 1), none, []⟩,
      ⟨some 9, .len_ (.tmp 8), none, []⟩,
      ⟨some 10, .bin .neq (.tmp 7) (.tmp 9), none, []⟩] [6, 7, 8, 9])
   (.cond (.tmp 10)
     (.seq
      (.region false [⟨some 4, .mv (.const (.bool false)), none, []⟩] [])
     .ret)
     .skip))
  (.seq
   (.seq
    (.region false [⟨some 11, .mv (.tmp 0), none, []⟩,
      ⟨some 12, .len_ (.tmp 11), none, []⟩,
      ⟨some 13, .mv (.const (.int .i64 0)), none, []⟩] [11])
   (.block 0
     (.loop
       (.seq
        (.region false [⟨some 14, .bin .lss (.tmp 13) (.tmp 12), none, []⟩] [])
       (.seq
        (.cond (.tmp 14)
          .skip
          (.exit 0))
       (.seq
        (.block 1
          (.seq
           (.region false [⟨some 15, .mv (.tmp 13), none, []⟩,
             ⟨some 5, .mv (.tmp 15), none, []⟩] [15])
          (.seq
           (.region true [⟨some 16, .mv (.tmp 0), none, []⟩,
             ⟨some 17, .mv (.tmp 5), none, []⟩,
             ⟨some 18, .iadS 1 (.tmp 16) (.tmp 17), none, [0, 1]⟩,
             ⟨some 19, .load1 (.tmp 18), none, [2, 0, 1]⟩,
             ⟨some 20, .mv (.tmp 1), none, []⟩,
             ⟨some 21, .mv (.tmp 5), none, []⟩,
             ⟨some 22, .iadS 1 (.tmp 20) (.tmp 21), none, [4, 5]⟩,
             ⟨some 23, .load1 (.tmp 22), none, [6, 4, 5]⟩,
             ⟨some 24, .bin .neq (.tmp 19) (.tmp 23), none, [3, 2, 0, 1, 7, 6, 4, 5]⟩] [16, 17, 18, 19, 20, 21, 22, 23])
          (.cond (.tmp 24)
            (.seq
             (.region false [⟨some 4, .mv (.const (.bool false)), none, []⟩] [])
            .ret)
            .skip))))
       (.region false [⟨some 25, .bin .add (.tmp 13) (.const (.int .i64 1)), none, []⟩,
         ⟨some 13, .mv (.tmp 25), none, []⟩] [25])))))))
  (.seq
   (.region false [⟨some 4, .mv (.const (.bool true)), none, []⟩] [])
  .ret))))
set_option maxRecDepth 100000 in
theorem kslices_Equal_L_L_Jint_Kint_J : IsCode Try.prog 144 26 cslices_Equal_L_L_Jint_Kint_J [.tmp 4] :=
  ⟨Try.f144, _, [24, 14, 10, 0, 1, 13, 12, 5, 4], Try.func144, rfl, by decide, rfl, by kernel_rfl, by kernel_rfl⟩
/-- slices_ContainsFunc_L_L_Jrotor_looked_Krotor_looked_J -/
def cslices_ContainsFunc_L_L_Jrotor_looked_Krotor_looked_J : ACode :=
  (.seq
   (.region false [⟨some 4, .mv (.const (.bool false)), none, []⟩] [])
  (.seq
   (.region false [⟨some 5, .mv (.tmp 0), none, []⟩,
     ⟨some 6, .mv (.tmp 1), none, []⟩,
     ⟨some 7, .call (.func 146) [(.tmp 5), (.tmp 6)], none, []⟩,
     ⟨some 8, .bin .geq (.tmp 7) (.const (.int .i64 0)), none, []⟩,
     ⟨some 4, .mv (.tmp 8), none, []⟩] [5, 6, 7, 8])
  .ret))
set_option maxRecDepth 100000 in
theorem kslices_ContainsFunc_L_L_Jrotor_looked_Krotor_looked_J : IsCode Try.prog 122 9 cslices_ContainsFunc_L_L_Jrotor_looked_Krotor_looked_J [.tmp 4] :=
  ⟨Try.f122, _, [0, 1, 4], Try.func122, rfl, by decide, rfl, by kernel_rfl, by kernel_rfl⟩
/-- slices_IndexFunc_L_L_Jrotor_looked_Krotor_looked_J -/
def cslices_IndexFunc_L_L_Jrotor_looked_Krotor_looked_J : ACode :=
  (.seq
   (.region false [⟨some 4, .mv (.const (.int .i64 0)), none, []⟩] [])
  (.seq
   (.seq
    (.region false [⟨some 6, .mv (.tmp 0), none, []⟩,
      ⟨some 7, .len_ (.tmp 6), none, []⟩,
      ⟨some 8, .mv (.const (.int .i64 0)), none, []⟩] [6])
   (.block 0
     (.loop
       (.seq
        (.region false [⟨some 9, .bin .lss (.tmp 8) (.tmp 7), none, []⟩] [])
       (.seq
        (.cond (.tmp 9)
          .skip
          (.exit 0))
       (.seq
        (.block 1
          (.seq
           (.region false [⟨some 10, .mv (.tmp 8), none, []⟩,
             ⟨some 5, .mv (.tmp 10), none, []⟩] [10])
          (.seq
           (.region false [⟨some 11, .mv (.tmp 1), none, []⟩,
             ⟨some 12, .mv (.tmp 0), none, []⟩,
             ⟨some 13, .mv (.tmp 5), none, []⟩,
             ⟨some 14, .iadS 7 (.tmp 12) (.tmp 13), none, []⟩,
             ⟨some 15, .loadN 7 (.tmp 14), none, []⟩,
             ⟨some 16, .call (.tmp 11) [(.tmp 15)], none, []⟩] [11, 12, 13, 14, 15])
          (.cond (.tmp 16)
            (.seq
             (.region false [⟨some 17, .mv (.tmp 5), none, []⟩,
               ⟨some 4, .mv (.tmp 17), none, []⟩] [17])
            .ret)
            .skip))))
       (.region false [⟨some 18, .bin .add (.tmp 8) (.const (.int .i64 1)), none, []⟩,
         ⟨some 8, .mv (.tmp 18), none, []⟩] [18])))))))
  (.seq
   (.region false [⟨some 4, .mv (.const (.int .i64 (-1))), none, []⟩] [])
  .ret)))
set_option maxRecDepth 100000 in
theorem kslices_IndexFunc_L_L_Jrotor_looked_Krotor_looked_J : IsCode Try.prog 146 19 cslices_IndexFunc_L_L_Jrotor_looked_Krotor_looked_J [.tmp 4] :=
  ⟨Try.f146, _, [16, 9, 0, 8, 7, 1, 5, 4], Try.func146, rfl, by decide, rfl, by kernel_rfl, by kernel_rfl⟩
end Go.Proofs.Ytgibbaadjbohdaa
