/- Texts of the law RecordShakes, part 6. No conditions. -/
import Derived.Test.YtdcodicoclecnaaPRecordShakes05
import Derived.Test.YtdcodicoclecnaaRows
/- The functions' bodies, translated. Written by a program; no conditions. -/
namespace Go.Proofs.Ytdcodicoclecnaa
open Go.RowKit Lift

/-- record_Peak -/
def crecord_Peak_B26 : ACode :=
  (.block 1
    (.seq
     (.region false [⟨some 28, .load1 (.tmp 6), none, []⟩,
       ⟨some 29, .bin .lss (.tmp 28) (.const (.int .i64 0)), none, []⟩,
       ⟨some 30, .mv (.tmp 29), none, []⟩,
       ⟨some 31, .mv (.tmp 11), (some (some 30, false)), []⟩,
       ⟨some 32, .load1 (.tmp 7), (some (some 30, false)), []⟩,
       ⟨some 33, .bin .gtr (.tmp 31) (.tmp 32), (some (some 30, false)), []⟩,
       ⟨some 34, .pick (.tmp 30) (.const (.bool true)) (.tmp 33), none, []⟩] [28, 29, 30, 31, 32, 33])
    (.cond (.tmp 34)
      (.region false [⟨some 35, .mv (.tmp 10), none, []⟩,
        ⟨some 36, .mv (.tmp 11), none, []⟩,
        ⟨none, .store 1 (.tmp 6) (.tmp 35), none, []⟩,
        ⟨none, .store 1 (.tmp 7) (.tmp 36), none, []⟩] [35, 36])
      .skip)))
def crecord_Peak : ACode :=
  (.seq
   (.region false [⟨some 3, .box (.tmp 0), none, []⟩,
     ⟨some 6, .mem [(.val (.int .i64 0))], none, []⟩,
     ⟨some 7, .mem [(.val (.int .i64 0))], none, []⟩,
     ⟨some 8, .mv (.const (.int .i64 0)), none, []⟩] [])
  (.seq
   (.region false [⟨some 13, .loadN 6 (.tmp 3), none, []⟩,
     ⟨some 14, .mv (.tmp 1), none, []⟩,
     ⟨some 15, .mv (.tmp 2), none, []⟩,
     ⟨some 16, .buildSl 1 1 [(.val (.int .i64 0))] [(0, 1, (.tmp 15))], none, []⟩,
     ⟨some 17, .call (.func 66) [(.tmp 13), (.tmp 14), (.tmp 16)], none, []⟩,
     ⟨some 12, .mv (.tmp 17), none, []⟩,
     ⟨some 18, .ext (.tmp 12) 0, none, []⟩,
     ⟨some 19, .ext (.tmp 12) 1, none, []⟩,
     ⟨some 9, .mv (.tmp 18), none, []⟩,
     ⟨some 8, .mv (.tmp 19), none, []⟩] [13, 14, 15, 16, 17, 12, 18, 19])
  (.seq
   (.seq
    (.region false [⟨some 20, .mv (.tmp 8), none, []⟩,
      ⟨some 21, .bin .neq (.tmp 20) (.const (.int .i64 0)), none, []⟩] [20])
   (.cond (.tmp 21)
     (.seq
      (.region false [⟨some 22, .mv (.tmp 8), none, []⟩,
        ⟨none, .store 1 (.tmp 6) (.const (.int .i64 0)), none, []⟩,
        ⟨none, .store 1 (.tmp 7) (.const (.int .i64 0)), none, []⟩,
        ⟨some 8, .mv (.tmp 22), none, []⟩] [22])
     .ret)
     .skip))
  (.seq
   (.region false [⟨none, .store 1 (.tmp 6) (.const (.int .i64 (-1))), none, []⟩] [])
  (.seq
   (.seq
    (.region false [⟨some 23, .mv (.tmp 9), none, []⟩,
      ⟨some 24, .mv (.tmp 2), none, []⟩,
      ⟨some 25, .call (.func 67) [(.tmp 23), (.tmp 24)], none, []⟩] [23, 24])
   (.block 0
     (.rangeFunc (.tmp 25) [26, 27] [(10, 26), (11, 27)] crecord_Peak_B26)))
  (.seq
   (.seq
    (.region false [⟨some 37, .load1 (.tmp 6), none, []⟩,
      ⟨some 38, .bin .lss (.tmp 37) (.const (.int .i64 0)), none, []⟩] [37])
   (.cond (.tmp 38)
     (.seq
      (.region false [⟨none, .store 1 (.tmp 6) (.const (.int .i64 0)), none, []⟩,
        ⟨none, .store 1 (.tmp 7) (.const (.int .i64 0)), none, []⟩,
        ⟨some 8, .mv (.const (.int .i64 3)), none, []⟩] [])
     .ret)
     .skip))
  (.seq
   (.region true [⟨some 39, .load1 (.tmp 6), none, []⟩,
     ⟨some 40, .load1 (.tmp 7), none, []⟩,
     ⟨none, .store 1 (.tmp 6) (.tmp 39), none, [0]⟩,
     ⟨none, .store 1 (.tmp 7) (.tmp 40), none, [1, 2, 0]⟩,
     ⟨some 8, .mv (.const (.int .i64 0)), none, [3, 1, 2, 0]⟩] [39, 40])
  .ret)))))))
set_option maxRecDepth 100000 in
theorem krecord_Peak : IsCode Try.prog 20 41 crecord_Peak [.cell1 6, .cell1 7, .tmp 8] :=
  ⟨Try.f20, _, [38, 34, 26, 27, 25, 21, 0, 3, 1, 2, 8, 6, 7, 9, 11, 10], Try.func20, rfl, by decide, rfl, by kernel_rfl, by kernel_rfl⟩
/-- ref12_CopyLayout -/
def cref12_CopyLayout : ACode :=
  (.seq
   (.region false [⟨some 1, .box (.tmp 0), none, []⟩,
     ⟨some 2, .mem [(.val (.int .i64 0)), (.val (.int .i64 0)), (.val (.int .i64 0)), (.val (.int .i64 0)), (.val (.int .i64 0)), (.val (.slice none 0 0))], none, []⟩] [])
  (.seq
   (.region false [⟨some 4, .loadN 6 (.tmp 1), none, []⟩,
     ⟨some 3, .mem [(.val (.int .i64 0)), (.val (.int .i64 0)), (.val (.int .i64 0)), (.val (.int .i64 0)), (.val (.int .i64 0)), (.val (.slice none 0 0))], none, []⟩,
     ⟨none, .store 6 (.tmp 3) (.tmp 4), none, []⟩] [4])
  (.seq
   (.region false [⟨some 5, .buildSl 9 0 [] [], none, []⟩,
     ⟨some 6, .fad 5 (.tmp 1), none, []⟩,
     ⟨some 7, .load1 (.tmp 6), none, []⟩,
     ⟨some 8, .app 9 72 (.tmp 5) (.tmp 7), none, []⟩,
     ⟨some 9, .fad 5 (.tmp 3), none, []⟩,
     ⟨none, .store 1 (.tmp 9) (.tmp 8), none, []⟩] [5, 6, 7, 8, 9])
  (.seq
   (.region false [⟨some 10, .loadN 6 (.tmp 3), none, []⟩,
     ⟨none, .store 6 (.tmp 2) (.tmp 10), none, []⟩] [10])
  .ret))))
set_option maxRecDepth 100000 in
theorem kref12_CopyLayout : IsCode Try.prog 31 11 cref12_CopyLayout [.cellN 2 6] :=
  ⟨Try.f31, _, [0, 1, 3, 2], Try.func31, rfl, by decide, rfl, by kernel_rfl, by kernel_rfl⟩
/-- ref12_CopyFrames -/
def cref12_CopyFrames : ACode :=
  (.seq
   (.region false [⟨some 2, .mv (.const (.slice none 0 0)), none, []⟩] [])
  (.seq
   (.region false [⟨some 3, .mv (.const (.slice none 0 0)), none, []⟩] [])
  (.seq
   (.seq
    (.region false [⟨some 4, .mv (.const (.int .i64 0)), none, []⟩] [])
   (.block 0
     (.loop
       (.seq
        (.seq
         (.region false [⟨some 5, .mv (.tmp 4), none, []⟩,
           ⟨some 6, .mv (.tmp 0), none, []⟩,
           ⟨some 7, .len_ (.tmp 6), none, []⟩,
           ⟨some 8, .bin .lss (.tmp 5) (.tmp 7), none, []⟩] [5, 6, 7])
        (.cond (.tmp 8)
          .skip
          (.exit 0)))
       (.seq
        (.block 1
          (.region false [⟨some 11, .mv (.tmp 3), none, []⟩,
            ⟨some 12, .buildSl 1 0 [] [], none, []⟩,
            ⟨some 13, .mv (.tmp 0), none, []⟩,
            ⟨some 14, .mv (.tmp 4), none, []⟩,
            ⟨some 15, .iadS 1 (.tmp 13) (.tmp 14), none, []⟩,
            ⟨some 16, .load1 (.tmp 15), none, []⟩,
            ⟨some 17, .app 1 8 (.tmp 12) (.tmp 16), none, []⟩,
            ⟨some 18, .buildSl 1 1 [(.val (.slice none 0 0))] [(0, 1, (.tmp 17))], none, []⟩,
            ⟨some 19, .app 1 24 (.tmp 11) (.tmp 18), none, []⟩,
            ⟨some 3, .mv (.tmp 19), none, []⟩] [11, 12, 13, 14, 15, 16, 17, 18, 19]))
       (.region false [⟨some 9, .mv (.tmp 4), none, []⟩,
         ⟨some 10, .bin .add (.tmp 9) (.const (.int .i64 1)), none, []⟩,
         ⟨some 4, .mv (.tmp 10), none, []⟩] [9, 10]))))))
  (.seq
   (.region false [⟨some 20, .mv (.tmp 3), none, []⟩,
     ⟨some 2, .mv (.tmp 20), none, []⟩] [20])
  .ret))))
set_option maxRecDepth 100000 in
theorem kref12_CopyFrames : IsCode Try.prog 65 21 cref12_CopyFrames [.tmp 2] :=
  ⟨Try.f65, _, [8, 4, 0, 3, 2], Try.func65, rfl, by decide, rfl, by kernel_rfl, by kernel_rfl⟩
/-- law12_own -/
def claw12_own : ACode :=
  (.seq
   (.region false [⟨some 1, .box (.tmp 0), none, []⟩,
     ⟨some 2, .mem [(.val (.int .i64 0)), (.val (.int .i64 0)), (.val (.int .i64 0)), (.val (.int .i64 0)), (.val (.int .i64 0)), (.val (.slice none 0 0)), (.val (.slice none 0 0))], none, []⟩] [])
  (.seq
   (.region true [⟨some 3, .fad 0 (.tmp 1), none, []⟩,
     ⟨some 4, .loadN 6 (.tmp 3), none, [0]⟩,
     ⟨some 5, .call (.func 31) [(.tmp 4)], none, [1, 0]⟩,
     ⟨some 6, .fad 6 (.tmp 1), none, []⟩,
     ⟨some 7, .load1 (.tmp 6), none, [3]⟩,
     ⟨some 8, .call (.func 65) [(.tmp 7)], none, [4, 3, 2, 1, 0]⟩,
     ⟨some 9, .build [(.val (.int .i64 0)), (.val (.int .i64 0)), (.val (.int .i64 0)), (.val (.int .i64 0)), (.val (.int .i64 0)), (.val (.slice none 0 0)), (.val (.slice none 0 0))] [(0, 6, (.tmp 5)), (6, 1, (.tmp 8))], none, [2, 1, 0, 5, 4, 3]⟩,
     ⟨none, .store 7 (.tmp 2) (.tmp 9), none, [6, 2, 1, 0, 5, 4, 3]⟩] [3, 4, 5, 6, 7, 8, 9])
  .ret))
set_option maxRecDepth 100000 in
theorem klaw12_own : IsCode Try.prog 17 10 claw12_own [.cellN 2 7] :=
  ⟨Try.f17, _, [0, 1, 2], Try.func17, rfl, by decide, rfl, by kernel_rfl, by kernel_rfl⟩
/-- law12_Far -/
def claw12_Far : ACode :=
  (.seq
   (.region false [⟨some 1, .box (.tmp 0), none, []⟩,
     ⟨some 2, .mv (.const (.bool false)), none, []⟩] [])
  (.seq
   (.seq
    (.region false [⟨some 4, .fad 0 (.tmp 1), none, []⟩,
      ⟨some 5, .fad 5 (.tmp 4), none, []⟩,
      ⟨some 6, .load1 (.tmp 5), none, []⟩,
      ⟨some 7, .len_ (.tmp 6), none, []⟩,
      ⟨some 8, .bin .gtr (.tmp 7) (.const (.int .i64 20)), none, []⟩,
      ⟨some 9, .mv (.tmp 8), none, []⟩,
      ⟨some 10, .fad 6 (.tmp 1), (some (some 9, false)), []⟩,
      ⟨some 11, .load1 (.tmp 10), (some (some 9, false)), []⟩,
      ⟨some 12, .len_ (.tmp 11), (some (some 9, false)), []⟩,
      ⟨some 13, .bin .gtr (.tmp 12) (.const (.int .i64 220)), (some (some 9, false)), []⟩,
      ⟨some 14, .pick (.tmp 9) (.const (.bool true)) (.tmp 13), none, []⟩] [4, 5, 6, 7, 8, 9, 10, 11, 12, 13])
   (.cond (.tmp 14)
     (.seq
      (.region false [⟨some 2, .mv (.const (.bool true)), none, []⟩] [])
     .ret)
     .skip))
  (.seq
   (.seq
    (.region false [⟨some 3, .mv (.const (.int .i64 0)), none, []⟩] [])
   (.block 0
     (.loop
       (.seq
        (.seq
         (.region false [⟨some 15, .mv (.tmp 3), none, []⟩,
           ⟨some 16, .fad 6 (.tmp 1), none, []⟩,
           ⟨some 17, .load1 (.tmp 16), none, []⟩,
           ⟨some 18, .len_ (.tmp 17), none, []⟩,
           ⟨some 19, .bin .lss (.tmp 15) (.tmp 18), none, []⟩] [15, 16, 17, 18])
        (.cond (.tmp 19)
          .skip
          (.exit 0)))
       (.seq
        (.block 1
          (.seq
           (.region false [⟨some 22, .fad 6 (.tmp 1), none, []⟩,
             ⟨some 23, .load1 (.tmp 22), none, []⟩,
             ⟨some 24, .mv (.tmp 3), none, []⟩,
             ⟨some 25, .iadS 1 (.tmp 23) (.tmp 24), none, []⟩,
             ⟨some 26, .load1 (.tmp 25), none, []⟩,
             ⟨some 27, .len_ (.tmp 26), none, []⟩,
             ⟨some 28, .bin .gtr (.tmp 27) (.const (.int .i64 50)), none, []⟩] [22, 23, 24, 25, 26, 27])
          (.cond (.tmp 28)
            (.seq
             (.region false [⟨some 2, .mv (.const (.bool true)), none, []⟩] [])
            .ret)
            .skip)))
       (.region false [⟨some 20, .mv (.tmp 3), none, []⟩,
         ⟨some 21, .bin .add (.tmp 20) (.const (.int .i64 1)), none, []⟩,
         ⟨some 3, .mv (.tmp 21), none, []⟩] [20, 21]))))))
  (.seq
   (.region false [⟨some 2, .mv (.const (.bool false)), none, []⟩] [])
  .ret))))
set_option maxRecDepth 100000 in
theorem klaw12_Far : IsCode Try.prog 15 29 claw12_Far [.tmp 2] :=
  ⟨Try.f15, _, [28, 19, 14, 0, 1, 3, 2], Try.func15, rfl, by decide, rfl, by kernel_rfl, by kernel_rfl⟩
/-- law12_sameInts -/
def claw12_sameInts : ACode :=
  (.seq
   (.region false [⟨some 4, .mv (.const (.bool false)), none, []⟩] [])
  (.seq
   (.seq
    (.region false [⟨some 6, .mv (.tmp 0), none, []⟩,
      ⟨some 7, .len_ (.tmp 6), none, []⟩,
      ⟨some 8, .mv (.tmp 1), none, []⟩,
      ⟨some 9, .len_ (.tmp 8), none, []⟩,
      ⟨some 10, .bin .neq (.tmp 7) (.tmp 9), none, []⟩] [6, 7, 8, 9])
   (.cond (.tmp 10)
     (.seq
      (.region false [⟨some 4, .mv (.const (.bool false)), none, []⟩] [])
     .ret)
     .skip))
  (.seq
   (.seq
    (.region false [⟨some 5, .mv (.const (.int .i64 0)), none, []⟩] [])
   (.block 0
     (.loop
       (.seq
        (.seq
         (.region false [⟨some 11, .mv (.tmp 5), none, []⟩,
           ⟨some 12, .mv (.tmp 0), none, []⟩,
           ⟨some 13, .len_ (.tmp 12), none, []⟩,
           ⟨some 14, .bin .lss (.tmp 11) (.tmp 13), none, []⟩] [11, 12, 13])
        (.cond (.tmp 14)
          .skip
          (.exit 0)))
       (.seq
        (.block 1
          (.seq
           (.region true [⟨some 17, .mv (.tmp 0), none, []⟩,
             ⟨some 18, .mv (.tmp 5), none, []⟩,
             ⟨some 19, .iadS 1 (.tmp 17) (.tmp 18), none, [0, 1]⟩,
             ⟨some 20, .load1 (.tmp 19), none, [2, 0, 1]⟩,
             ⟨some 21, .mv (.tmp 1), none, []⟩,
             ⟨some 22, .mv (.tmp 5), none, []⟩,
             ⟨some 23, .iadS 1 (.tmp 21) (.tmp 22), none, [4, 5]⟩,
             ⟨some 24, .load1 (.tmp 23), none, [6, 4, 5]⟩,
             ⟨some 25, .bin .neq (.tmp 20) (.tmp 24), none, [3, 2, 0, 1, 7, 6, 4, 5]⟩] [17, 18, 19, 20, 21, 22, 23, 24])
          (.cond (.tmp 25)
            (.seq
             (.region false [⟨some 4, .mv (.const (.bool false)), none, []⟩] [])
            .ret)
            .skip)))
       (.region false [⟨some 15, .mv (.tmp 5), none, []⟩,
         ⟨some 16, .bin .add (.tmp 15) (.const (.int .i64 1)), none, []⟩,
         ⟨some 5, .mv (.tmp 16), none, []⟩] [15, 16]))))))
  (.seq
   (.region false [⟨some 4, .mv (.const (.bool true)), none, []⟩] [])
  .ret))))
set_option maxRecDepth 100000 in
theorem klaw12_sameInts : IsCode Try.prog 29 26 claw12_sameInts [.tmp 4] :=
  ⟨Try.f29, _, [25, 14, 10, 0, 1, 5, 4], Try.func29, rfl, by decide, rfl, by kernel_rfl, by kernel_rfl⟩
end Go.Proofs.Ytdcodicoclecnaa
/- Boxes as abstract values; what is left of a box without another one. No conditions. -/
namespace Go.Proofs.Ytdcodicoclecnaa
open Go.RowKit Lift

abbrev Bx := List (Int × Int)
def sps (b : Bx) : List (List D) := b.map fun x => [.val (.int .i64 x.1), .val (.int .i64 x.2)]
def scells : Bx → List D
  | [] => []
  | x :: b => .val (.int .i64 x.1) :: .val (.int .i64 x.2) :: scells b
def bcells (l : List Bx) : List D := l.map fun b => .list (sps b)
def lo (b : Bx) (k : Nat) : Int := (b[k]?.getD (0, 0)).1
def hi (b : Bx) (k : Nat) : Int := (b[k]?.getD (0, 0)).2
theorem sps_len (b : Bx) : (sps b).length = b.length := by simp [sps]
theorem sps_all (b : Bx) : (sps b).all (fun x => x.length == 2) = true := by simp [sps]
theorem sps_two (b : Bx) : ∀ e ∈ sps b, e.length = 2 := by intro e he; obtain ⟨x, _, rfl⟩ := List.mem_map.1 he; rfl
theorem sps_flat (b : Bx) : (sps b).flatten = scells b := by
  induction b with
  | nil => rfl
  | cons x b ih => simp [sps, scells] at ih ⊢; exact ih
theorem scells_len (b : Bx) : (scells b).length = b.length * 2 := by
  induction b with
  | nil => rfl
  | cons x b ih => simp [scells, ih]; omega
theorem scells_mem {b : Bx} : ∀ {d : D}, d ∈ scells b → ∃ n, d = .val (.int .i64 n) := by
  induction b with
  | nil => intro d h; simp [scells] at h
  | cons x b ih =>
    intro d h
    simp only [scells, List.mem_cons] at h
    rcases h with rfl | rfl | h
    · exact ⟨_, rfl⟩
    · exact ⟨_, rfl⟩
    · exact ih h
theorem scells_in (b : Bx) : ∀ d ∈ scells b, In (fun _ => False) d := fun d hd => by obtain ⟨n, rfl⟩ := scells_mem hd; exact .val _
theorem bcells_in (l : List Bx) : ∀ d ∈ bcells l, In (fun _ => False) d := by
  intro d hd; obtain ⟨x, _, rfl⟩ := List.mem_map.1 hd; exact .list _
theorem sps_gd (b : Bx) (k : Nat) (h : k < b.length) : (sps b)[k]? = some [.val (.int .i64 (lo b k)), .val (.int .i64 (hi b k))] := by simp [sps, lo, hi, h]
/-! ### what the functions compute -/
structure OkB (b : Bx) : Prop where
  pos : 1 ≤ b.length
  len : b.length ≤ 3
  low : ∀ k, k < b.length → -1000000 ≤ lo b k
  le : ∀ k, k < b.length → lo b k ≤ hi b k
  high : ∀ k, k < b.length → hi b k ≤ 1000000
end Go.Proofs.Ytdcodicoclecnaa
/- record: Read, Peak (a reference to a yield, .yref, lies in memory). No conditions. -/
set_option linter.unusedSimpArgs false
set_option linter.unusedVariables false
namespace Go.Proofs.Ytdcodicoclecnaa
open Go.RowKit Lift

def pkS (l : Lay) (f : Fl) (frs : List (List Int)) : Nat → Int × Int
  | 0 => (-1, 0)
  | i + 1 => match smp l f (frm frs i) with
    | some v => if (pkS l f frs i).1 < 0 ∨ v > (pkS l f frs i).2 then ((i : Int), v) else pkS l f frs i
    | none => pkS l f frs i
theorem sc_snoc (L : List (Int × Int)) (x : Int × Int) : scells L ++ [.val (.int .i64 x.1), .val (.int .i64 x.2)] = scells (L ++ [x]) := by
  rw [← sps_flat, ← sps_flat]; simp [sps]
theorem sc_all (L : List (Int × Int)) : (scells L).take (L.length * 2) = scells L := List.take_of_length_le (by rw [scells_len]; omega)
theorem hasA_one (l : Lay) (x : Int) : hasA l [x] = wI x 0 ((l.fl.length : Int) - 1) := by simp [hasA]
theorem wfE_ok {l : Lay} {frs : List (List Int)} {x : Int} (h : wfE l frs [x] = 0) : LayOk l ∧ frs.length ≤ 200 ∧ hasA l [x] = true ∧ ∃ k : Nat, x = k ∧ k < l.fl.length := by
  unfold wfE at h
  rcases tpE_cases l frs with ⟨h0, h1, h2⟩ | ⟨h0, _⟩
  · rw [if_pos h0] at h
    cases hh : hasA l [x] with
    | false => rw [hh] at h; cases h
    | true =>
      refine ⟨h1, h2, rfl, x.toNat, ?_⟩
      rw [hasA_one] at hh
      have := wI_t hh
      omega
  · rw [if_neg h0] at h; exact absurd h h0
set_option maxRecDepth 100000 in
set_option maxHeartbeats 4000000 in
theorem peak_ok (l : Lay) (frs : List (List Int)) (k : Nat) (hl : LayIn l) (h1 : LayOk l) (h2 : frs.length ≤ 200) (hf : FrIn frs) (hk : k < l.fl.length) : AC Try.prog 20 [layD l, .list (rows frs), dI k] [] [] (if (pkS l (fAt l k) frs frs.length).1 < 0 then .tup [dI 0, dI 0, dI 3] else .tup [dI (pkS l (fAt l k) frs frs.length).1, dI (pkS l (fAt l k) frs frs.length).2, dI 0]) := by
  have hin : In (fun _ => False) (if (pkS l (fAt l k) frs frs.length).1 < 0 then D.tup [dI 0, dI 0, dI 3] else .tup [dI (pkS l (fAt l k) frs frs.length).1, dI (pkS l (fAt l k) frs frs.length).2, dI 0]) := by
    split <;> exact .tup _ (by intro d hd; simp at hd; rcases hd with rfl | rfl | rfl <;> exact .val _)
  refine krecord_Peak.ac (n0 := 0) (by simp) ⟨in_layD _ _, .list _, .val _, trivial⟩ trivial rfl ?_
  unfold crecord_Peak layD layC
  have hh : hasA l [(k : Int)] = true := by rw [hasA_one]; exact wI_y (by omega) (by omega)
  have nt := withField_ok l frs [(k : Int)] hl h1 h2 hf (Nat.le_of_ble_eq_true rfl) hh
  have sa := samples_ac l frs k hk (by have := h1.nf; omega)
  have hfo := fAt_ok h1 hk
  generalize fAt l k = f at *
  refine aw_seq (aw_region ?_)
  simp (config := {maxSteps := 10000000}) (disch := first | exact okYes (by kernel_rfl) | omega) only [thenQ, List.map, Int.reduceNeg, dI, List.length, Nat.zero_add, Nat.reduceAdd, Nat.reduceMul, envOf, ARun_none, AOpRun, aexec, D.isBot, FSt.ev, St.F, ↓eget_h, Bool.false_eq_true, Option.isSome, hget_n, or_self, ↓reduceIte, D.cells, AGo_ok, St.app, putO, eput_c, Nat.reduceBEq, eput_n, cond_false, hups, hput_n, hget_c, hput_c, ARun_nil, dropE_c, inL_n, dropE_n]
  refine aw_wk (s' := ⟨[(1, .list (rows frs)), (2, dI k), (3, .ptr 0 0), (6, .ptr 8 0), (7, .ptr 16 0)], [(0, [dI l.words, dI l.s0, dI l.s1, dI l.s2, dI l.s3, .list (fls l.fl)]), (8, [dI 0]), (16, [dI 0])], 40⟩) ?_ ?_
  · unfold dI
    refine wk_to [] [(0, 0), (8, 8), (16, 16)] (by kernel_rfl) (by kernel_rfl) (by kernel_rfl) (by kernel_rfl) (by kernel_rfl) ?_ ?_ <;> repeat' (first | exact trivial | exact vr_val _ | exact vr_list _ | exact vr_ptr _ _ _ rfl | refine And.intro ⟨_, rfl, .inl ⟨_, rfl, by decide, ?_⟩⟩ ?_ | apply And.intro)
  refine aw_seq (aw_region_cut [⟨some 13, .loadN 6 (.tmp 3), none, []⟩,
     ⟨some 14, .mv (.tmp 1), none, []⟩,
     ⟨some 15, .mv (.tmp 2), none, []⟩,
     ⟨some 16, .buildSl 1 1 [(.val (.int .i64 0))] [(0, 1, (.tmp 15))], none, []⟩]
     [⟨some 17, .call (.func 66) [(.tmp 13), (.tmp 14), (.tmp 16)], none, []⟩,
     ⟨some 12, .mv (.tmp 17), none, []⟩,
     ⟨some 18, .ext (.tmp 12) 0, none, []⟩,
     ⟨some 19, .ext (.tmp 12) 1, none, []⟩,
     ⟨some 9, .mv (.tmp 18), none, []⟩,
     ⟨some 8, .mv (.tmp 19), none, []⟩] ?_)
  simp (config := {maxSteps := 10000000}) (disch := first | exact okYes (by kernel_rfl) | omega) only [List.length, Nat.zero_add, Nat.reduceAdd, Nat.reduceMul, thenQ, Int.reduceNeg, ARun_none, AOpRun, FSt.ev, List.map, St.F, dI, aexec, eget_c, Nat.reduceBEq, ↓eget_h, cond_false, hget_c, beq_self_eq_true, hget_n, cond_true, Nat.reduceLeDiff, ↓reduceIte, List.drop, List.take, AGo_ok, St.app, putO, eput_c, eput_n, hups, Option.isSome, Bool.false_eq_true, Option.map, fillD, D.isBot, D.cells, ne_eq, not_true_eq_false, Nat.reduceGT, or_self, splice, List.nil_append, List.append_nil, hput_c, hput_n, ARun_nil]
  refine ⟨⟨[(2, dI k), (6, .ptr 8 0), (7, .ptr 16 0), (13, layD l), (14, .list (rows frs)), (16, .list (ints [(k : Int)]))], [(8, [dI 0]), (16, [dI 0])], 96⟩, ?_, of_decide_eq_true (by kernel_rfl), ?_⟩
  · unfold layD layC dI
    refine wk_to [64] [(8, 8), (16, 16)] (by kernel_rfl) (by kernel_rfl) (by kernel_rfl) (by kernel_rfl) (by kernel_rfl) ?_ ?_ <;> repeat' (first | exact trivial | exact vr_val _ | exact vr_list _ | exact vr_ptr _ _ _ rfl | apply vr_agg | refine vr_fl _ _ _ _ _ (by decide) rfl ?_ ?_ ?_ ?_ | refine And.intro ⟨_, rfl, .inl ⟨_, rfl, by decide, ?_⟩⟩ ?_ | apply And.intro)
    all_goals first | exact ints_one _ | exact ints_len _ | exact ints_flat _ | exact icells_in _ | exact icells_in [(k : Int)]
  simp (config := {maxSteps := 10000000}) (disch := first | exact okYes (by kernel_rfl) | omega) only [Nat.reduceSub, Int.reduceNeg, Nat.reduceAdd, eget_c, Nat.reduceBEq, ↓eget_h, cond_false]
  refine acallB nt (by repeat' (first | exact trivial | exact rfl | refine And.intro ?_ ?_)) (by kernel_rfl) (by kernel_rfl) (by kernel_rfl) ?_
  simp (config := {maxSteps := 10000000}) (disch := first | exact okYes (by kernel_rfl) | omega) only [Int.reduceNeg, Nat.reduceAdd, St.app, putO, dI, eput_c, Nat.reduceBEq, eput_n, cond_false, hups, hput_c, hput_n, List.map, List.append_nil, ARun_none, AOpRun, aexec, FSt.ev, St.F, eget_c, ↓eget_h, AGo_ok, opt1, Option.map, List.getElem?_cons_zero, List.getElem?_cons_succ, ARun_nil, dropE_c, inL_c, inL_n, beq_self_eq_true, cond_true, dropE_n]
  refine aw_seq (aw_seq (aw_region ?_))
  simp (config := {maxSteps := 10000000}) (disch := first | exact okYes (by kernel_rfl) | omega) only [thenQ, Int.reduceNeg, List.length, Nat.zero_add, Nat.reduceAdd, Nat.reduceMul, ARun_none, AOpRun, aexec, FSt.ev, St.F, eget_c, Nat.reduceBEq, ↓eget_h, cond_false, AGo_ok, St.app, putO, eput_c, eput_n, hups, List.map, isSh, Bool.false_eq_true, ↓reduceIte, Option.map, abin, bne_self_eq_false, ARun_nil, dropE_c, inL_c, inL_n, beq_self_eq_true, cond_true, dropE_n]
  refine aw_condF rfl (aw_skip ?_)
  refine aw_seq (aw_region ?_)
  simp (config := {maxSteps := 10000000}) (disch := first | exact okYes (by kernel_rfl) | omega) only [thenQ, List.length, Nat.zero_add, Nat.reduceMul, Nat.reduceAdd, Int.reduceNeg, ARun_none, AOpRun, aexec, FSt.ev, St.F, eget_c, Nat.reduceBEq, ↓eget_h, cond_false, hget_c, beq_self_eq_true, hget_n, cond_true, D.isBot, D.cells, Nat.reduceLeDiff, List.all, D.leaf, Bool.and_true, and_self, ↓reduceIte, splice, List.take, List.nil_append, List.drop, List.append_nil, AGo_ok, St.app, putO, hups, hput_c, hput_n, List.map, ARun_nil, dropE_c, inL_n, dropE_n]
  refine aw_wk (s' := ⟨[(2, dI k), (6, .ptr 8 0), (7, .ptr 16 0), (9, .ptr 96 0)], [(96, tpC l frs), (8, [dI (-1)]), (16, [dI 0])], 104⟩) ?_ ?_
  · unfold dI
    refine wk_to [] [(8, 8), (16, 16), (96, 96)] (by kernel_rfl) (by kernel_rfl) (by kernel_rfl) (by kernel_rfl) (by kernel_rfl) ?_ ?_ <;> repeat' (first | exact trivial | exact vr_val _ | exact vr_list _ | exact vr_ptr _ _ _ rfl | refine And.intro ⟨_, rfl, .inl ⟨_, rfl, by decide, ?_⟩⟩ ?_ | apply And.intro)
    all_goals exact tpC_in _ _ _
  refine aw_seq (aw_seq (aw_region ?_))
  simp (config := {maxSteps := 10000000}) (disch := first | exact okYes (by kernel_rfl) | omega) only [thenQ, List.length, Nat.zero_add, Nat.reduceAdd, Nat.reduceMul, dI, Int.reduceNeg, ARun_none, AOpRun, aexec, FSt.ev, St.F, eget_c, Nat.reduceBEq, ↓eget_h, cond_false, AGo_ok, St.app, putO, eput_c, eput_n, hups, List.map]
  refine acallB sa (by repeat' (first | exact trivial | exact rfl | refine And.intro ?_ ?_)) (by kernel_rfl) (by kernel_rfl) (by kernel_rfl) ?_
  simp (config := {maxSteps := 10000000}) (disch := first | exact okYes (by kernel_rfl) | omega) only [Nat.reduceAdd, St.app, putO, eput_c, Nat.reduceBEq, eput_n, cond_false, hups, Int.reduceNeg, hput_c, hput_n, beq_self_eq_true, cond_true, List.map, List.append_nil, ARun_nil, dropE_c, inL_c, inL_n, dropE_n]
  refine aw_wk (s' := ⟨[(6, .ptr 8 0), (7, .ptr 16 0), (25, .fn 113 [] [.ptr 120 0, .ptr 121 0])], [(96, tpC l frs), (120, [.ptr 96 0]), (121, flC f), (8, [dI (-1)]), (16, [dI 0])], 800⟩) ?_ ?_
  · unfold dI
    refine wk_to [] [(8, 8), (16, 16), (96, 96), (120, 120), (121, 121)] (by kernel_rfl) (by kernel_rfl) (by kernel_rfl) (by kernel_rfl) (by kernel_rfl) ?_ ?_ <;> repeat' (first | exact trivial | exact vr_val _ | exact vr_list _ | exact vr_ptr _ _ _ rfl | apply vr_fn | refine And.intro ⟨_, rfl, .inl ⟨_, rfl, by decide, ?_⟩⟩ ?_ | apply And.intro)
    all_goals first | exact tpC_in _ _ _ | exact flC_in _ _
  refine aw_block (aw_range [8, 16, 96, 120, 121] [(6, .ptr 8 0), (7, .ptr 16 0)] [.bot, .bot, .bot, .bot, .bot, .bot, .ptr 8 0, .ptr 16 0] kprecord_tape_samples_S1 rfl (by simp) ⟨.inl rfl, .inl rfl, .inl rfl, .inl rfl, .inl rfl, .inl rfl, .inr rfl, .inr rfl, trivial⟩ rfl rfl (by simp) ⟨.inr ⟨rfl, .ptr _ _ (by simp)⟩, .inr ⟨rfl, .ptr _ _ (by simp)⟩, trivial⟩ (fun r hr => ?_))
  refine samples_hit hr rfl l frs h2 h1 f hfo hf [8, 16, 96, 120, 121] (by decide) [.bot, .bot, .bot, .bot, .bot, .bot, .ptr 8 0, .ptr 16 0] rfl (by intro d hd; simp at hd; rcases hd with rfl | rfl | rfl; exact .bot; exact .ptr _ _ (by simp); exact .ptr _ _ (by simp)) (by simp) (by simp) (by simp) (fun i => [(8, [dI (pkS l f frs i).1]), (16, [dI (pkS l f frs i).2])])
    (fun i => .cons (by decide) (by intro d hd; simp at hd; subst hd; exact .val _) rfl (.cons (by decide) (by intro d hd; simp at hd; subst hd; exact .val _) rfl .nil)) (fun i hi hs => ?_) (fun i v hi hs => ?_) ?_
  · have : pkS l f frs (i + 1) = pkS l f frs i := by simp only [pkS, hs]
    simp only [this]
  · have e : pkS l f frs (i + 1) = if (pkS l f frs i).1 < 0 ∨ v > (pkS l f frs i).2 then ((i : Int), v) else pkS l f frs i := by simp only [pkS, hs]
    rw [e]
    generalize pkS l f frs i = p at *
    obtain ⟨a, b⟩ := p
    simp only
    unfold crecord_Peak_B26 smH
    refine aw_block (aw_seq (aw_region ?_))
    cases q1 : decide (a < 0) with
    | true =>
      rw [if_pos (.inl (of_decide_eq_true q1))]
      simp (config := {maxSteps := 10000000}) (disch := first | exact okYes (by kernel_rfl) | omega) only [thenQ, dI, List.length, Nat.zero_add, Nat.reduceAdd, Nat.reduceMul, bodyE, asgE, parE, envOf, eput_c, Nat.reduceBEq, eput_n, cond_false, eget_c, ↓eget_h, ARun_none, AOpRun, aexec, Option.map, run1, FSt.ev, St.F, hget_c, ↓hget_h, List.getElem?_cons_zero, AGo_ok, St.app, putO, hups, List.map, isSh, Bool.false_eq_true, ↓reduceIte, abin, q1, ARun_some, AG_tf, ARun_nil, dropE_c, inL_c, inL_n, beq_self_eq_true, cond_true, dropE_n]
      refine aw_condT rfl (aw_region ?_)
      simp (config := {maxSteps := 10000000}) (disch := first | exact okYes (by kernel_rfl) | omega) only [blockQ, List.length, Nat.zero_add, Nat.reduceAdd, Nat.reduceMul, true_and, ARun_none, AOpRun, aexec, FSt.ev, St.F, eget_c, Nat.reduceBEq, ↓eget_h, cond_false, AGo_ok, St.app, putO, eput_c, eput_n, hups, List.map, hget_c, ↓hget_h, D.isBot, D.cells, Nat.reduceLeDiff, List.all, D.leaf, Bool.and_true, and_self, ↓reduceIte, splice, List.take, List.nil_append, List.drop, List.append_nil, hput_c, beq_self_eq_true, hput_n, cond_true, ARun_nil, dropE_c, inL_c, inL_n, dropE_n]
      try refine ⟨rfl, ?_⟩
      refine wk_to [] [(8, 8), (16, 16), (96, 96), (120, 120), (121, 121), (800, 800), (808, 808), (1000, 1000)] (by kernel_rfl) (by kernel_rfl) (by kernel_rfl) (by kernel_rfl) (by kernel_rfl) ?_ ?_ <;> repeat' (first | exact trivial | exact vr_val _ | exact vr_list _ | exact vr_ptr _ _ _ rfl | refine And.intro ⟨_, rfl, .inl ⟨_, rfl, by decide, ?_⟩⟩ ?_ | apply And.intro | exact vr_yrefs _ _ rfl)
      all_goals first | exact tpC_in _ _ _ | exact flC_in _ _
    | false =>
      have n1 := of_decide_eq_false q1
      cases q2 : decide (v > b) with
      | true =>
        rw [if_pos (.inr (of_decide_eq_true q2))]
        simp (config := {maxSteps := 10000000}) (disch := first | exact okYes (by kernel_rfl) | omega) only [thenQ, dI, List.length, Nat.zero_add, Nat.reduceAdd, Nat.reduceMul, bodyE, asgE, parE, envOf, eput_c, Nat.reduceBEq, eput_n, cond_false, eget_c, ↓eget_h, ARun_none, AOpRun, aexec, Option.map, run1, FSt.ev, St.F, hget_c, ↓hget_h, List.getElem?_cons_zero, AGo_ok, St.app, putO, hups, List.map, isSh, Bool.false_eq_true, ↓reduceIte, abin, q1, ARun_some, AG_ff, q2, ARun_nil, dropE_c, inL_c, inL_n, beq_self_eq_true, cond_true, dropE_n]
        refine aw_condT rfl (aw_region ?_)
        simp (config := {maxSteps := 10000000}) (disch := first | exact okYes (by kernel_rfl) | omega) only [blockQ, List.length, Nat.zero_add, Nat.reduceAdd, Nat.reduceMul, true_and, ARun_none, AOpRun, aexec, FSt.ev, St.F, eget_c, Nat.reduceBEq, ↓eget_h, cond_false, AGo_ok, St.app, putO, eput_c, eput_n, hups, List.map, hget_c, ↓hget_h, D.isBot, D.cells, Nat.reduceLeDiff, List.all, D.leaf, Bool.and_true, and_self, ↓reduceIte, splice, List.take, List.nil_append, List.drop, List.append_nil, hput_c, beq_self_eq_true, hput_n, cond_true, ARun_nil, dropE_c, inL_c, inL_n, dropE_n]
        try refine ⟨rfl, ?_⟩
        refine wk_to [] [(8, 8), (16, 16), (96, 96), (120, 120), (121, 121), (800, 800), (808, 808), (1000, 1000)] (by kernel_rfl) (by kernel_rfl) (by kernel_rfl) (by kernel_rfl) (by kernel_rfl) ?_ ?_ <;> repeat' (first | exact trivial | exact vr_val _ | exact vr_list _ | exact vr_ptr _ _ _ rfl | refine And.intro ⟨_, rfl, .inl ⟨_, rfl, by decide, ?_⟩⟩ ?_ | apply And.intro | exact vr_yrefs _ _ rfl)
        all_goals first | exact tpC_in _ _ _ | exact flC_in _ _
      | false =>
        have n2 := of_decide_eq_false q2
        rw [if_neg (by rintro (h | h); exact n1 h; exact n2 h)]
        simp (config := {maxSteps := 10000000}) (disch := first | exact okYes (by kernel_rfl) | omega) only [thenQ, dI, List.length, Nat.zero_add, Nat.reduceAdd, Nat.reduceMul, bodyE, asgE, parE, envOf, eput_c, Nat.reduceBEq, eput_n, cond_false, eget_c, ↓eget_h, ARun_none, AOpRun, aexec, Option.map, run1, FSt.ev, St.F, hget_c, ↓hget_h, List.getElem?_cons_zero, AGo_ok, St.app, putO, hups, List.map, isSh, Bool.false_eq_true, ↓reduceIte, abin, q1, ARun_some, AG_ff, q2, ARun_nil, dropE_c, inL_c, inL_n, beq_self_eq_true, cond_true, dropE_n]
        refine aw_condF rfl (aw_skip ?_)
        try refine ⟨rfl, ?_⟩
        refine wk_to [] [(8, 8), (16, 16), (96, 96), (120, 120), (121, 121), (800, 800), (808, 808), (1000, 1000)] (by kernel_rfl) (by kernel_rfl) (by kernel_rfl) (by kernel_rfl) (by kernel_rfl) ?_ ?_ <;> repeat' (first | exact trivial | exact vr_val _ | exact vr_list _ | exact vr_ptr _ _ _ rfl | refine And.intro ⟨_, rfl, .inl ⟨_, rfl, by decide, ?_⟩⟩ ?_ | apply And.intro | exact vr_yrefs _ _ rfl)
        all_goals first | exact tpC_in _ _ _ | exact flC_in _ _
  · generalize pkS l f frs frs.length = p at *
    obtain ⟨a, b⟩ := p
    unfold smH
    simp only [blockQ, thenQ]
    cases q1 : decide (a < 0) with
    | true =>
      rw [if_pos (of_decide_eq_true q1)]
      (have hg : (987654321 : Nat) - 987654321 = 0 := rfl; have hr := hg; repeat' (first | refine aw_seq ?_ | (refine aw_skip ?_; repeat' (first | with_reducible refine thenQ_n ?_ | with_reducible refine blockQ_n ?_ | with_reducible refine thenQ_e ?_ | with_reducible refine blockQ_t ?_ | with_reducible refine blockQ_f (by decide) ?_)) | (refine aw_exit ?_; repeat' (first | with_reducible refine thenQ_n ?_ | with_reducible refine blockQ_n ?_ | with_reducible refine thenQ_e ?_ | with_reducible refine blockQ_t ?_ | with_reducible refine blockQ_f (by decide) ?_)) | refine aw_ret ?_ | refine aw_block ?_ | refine aw_condT rfl ?_ | refine aw_condF rfl ?_ | ((first | refine aw_hide fun K hK => aw_region ?_ | refine ago_if (by omega) ?_ | skip); simp (config := {maxSteps := 10000000}) (disch := first | exact okYes (by kernel_rfl) | omega) only [List.length, Nat.zero_add, Nat.reduceAdd, Nat.reduceMul, dI, ARun_none, AOpRun, aexec, Option.map, run1, FSt.ev, St.F, ↓eget_h, hget_c, Nat.reduceBEq, ↓hget_h, cond_false, List.getElem?_cons_zero, AGo_ok, St.app, putO, eput_c, eput_n, hups, List.map, eget_c, isSh, Bool.false_eq_true, ↓reduceIte, abin, q1, ARun_nil, dropE_c, inL_c, inL_n, beq_self_eq_true, cond_true, dropE_n, D.isBot, D.cells, Nat.reduceLeDiff, List.all, D.leaf, Bool.and_true, and_self, splice, List.take, List.nil_append, List.drop, List.append_nil, hput_c, hput_n, thenQ]) | (subst hK; repeat' (first | with_reducible refine thenQ_n ?_ | with_reducible refine blockQ_n ?_ | with_reducible refine thenQ_e ?_ | with_reducible refine blockQ_t ?_ | with_reducible refine blockQ_f (by decide) ?_))))
      (refine end_to [] [] (by first | exact .inl rfl | exact .inr rfl) rfl (by kernel_rfl) (by kernel_rfl) (by kernel_rfl) ?_ ?_ <;> repeat' (first | exact trivial | exact vr_val _ | apply vr_tup | apply And.intro))
    | false =>
      rw [if_neg (of_decide_eq_false q1)]
      (have hg : (987654321 : Nat) - 987654321 = 0 := rfl; have hr := hg; repeat' (first | refine aw_seq ?_ | (refine aw_skip ?_; repeat' (first | with_reducible refine thenQ_n ?_ | with_reducible refine blockQ_n ?_ | with_reducible refine thenQ_e ?_ | with_reducible refine blockQ_t ?_ | with_reducible refine blockQ_f (by decide) ?_)) | (refine aw_exit ?_; repeat' (first | with_reducible refine thenQ_n ?_ | with_reducible refine blockQ_n ?_ | with_reducible refine thenQ_e ?_ | with_reducible refine blockQ_t ?_ | with_reducible refine blockQ_f (by decide) ?_)) | refine aw_ret ?_ | refine aw_block ?_ | refine aw_condT rfl ?_ | refine aw_condF rfl ?_ | ((first | refine aw_hide fun K hK => aw_region ?_ | refine ago_if (by omega) ?_ | skip); simp (config := {maxSteps := 10000000}) (disch := first | exact okYes (by kernel_rfl) | omega) only [List.length, Nat.zero_add, Nat.reduceAdd, Nat.reduceMul, dI, ARun_none, AOpRun, aexec, Option.map, run1, FSt.ev, St.F, ↓eget_h, hget_c, Nat.reduceBEq, ↓hget_h, cond_false, List.getElem?_cons_zero, AGo_ok, St.app, putO, eput_c, eput_n, hups, List.map, eget_c, isSh, Bool.false_eq_true, ↓reduceIte, abin, q1, ARun_nil, dropE_c, inL_c, inL_n, beq_self_eq_true, cond_true, dropE_n, D.isBot, D.cells, Nat.reduceLeDiff, List.all, D.leaf, Bool.and_true, and_self, splice, List.take, List.nil_append, List.drop, List.append_nil, hput_c, hput_n]) | (subst hK; repeat' (first | with_reducible refine thenQ_n ?_ | with_reducible refine blockQ_n ?_ | with_reducible refine thenQ_e ?_ | with_reducible refine blockQ_t ?_ | with_reducible refine blockQ_f (by decide) ?_))))
      (refine end_to [] [] (by first | exact .inl rfl | exact .inr rfl) rfl (by kernel_rfl) (by kernel_rfl) (by kernel_rfl) ?_ ?_ <;> repeat' (first | exact trivial | exact vr_val _ | apply vr_tup | apply And.intro))
set_option maxRecDepth 100000 in
set_option maxHeartbeats 1000000 in
theorem peak_err (l : Lay) (frs : List (List Int)) (x : Int) (hl : LayIn l) (he : wfE l frs [x] ≠ 0) (hf : FrIn frs) : AC Try.prog 20 [layD l, .list (rows frs), dI x] [] [] (.tup [dI 0, dI 0, dI (wfE l frs [x])]) := by
  refine krecord_Peak.ac (n0 := 0) (by simp) ⟨in_layD _ _, .list _, .val _, trivial⟩ trivial rfl ?_
  unfold crecord_Peak layD layC
  have nt := withField_err l frs [x] hl hf (Nat.le_of_ble_eq_true rfl) he
  have h1 : (wfE l frs [x] != 0) = true := by simpa using he
  generalize wfE l frs [x] = E at *
  refine aw_seq (aw_region ?_)
  simp (config := {maxSteps := 10000000}) (disch := first | exact okYes (by kernel_rfl) | omega) only [thenQ, List.map, Int.reduceNeg, dI, List.length, Nat.zero_add, Nat.reduceAdd, Nat.reduceMul, envOf, ARun_none, AOpRun, aexec, D.isBot, FSt.ev, St.F, ↓eget_h, Bool.false_eq_true, Option.isSome, hget_n, or_self, ↓reduceIte, D.cells, AGo_ok, St.app, putO, eput_c, Nat.reduceBEq, eput_n, cond_false, hups, hput_n, hget_c, hput_c, ARun_nil, dropE_c, inL_n, dropE_n]
  refine aw_seq (aw_region ?_)
  simp (config := {maxSteps := 10000000}) (disch := first | exact okYes (by kernel_rfl) | omega) only [thenQ, Int.reduceNeg, List.length, Nat.zero_add, Nat.reduceAdd, Nat.reduceMul, ARun_none, AOpRun, aexec, FSt.ev, St.F, eget_c, Nat.reduceBEq, ↓eget_h, cond_false, hget_c, beq_self_eq_true, hget_n, cond_true, Nat.reduceLeDiff, ↓reduceIte, List.drop, List.take, AGo_ok, St.app, putO, eput_c, eput_n, hups, List.map, Option.isSome, Bool.false_eq_true, Option.map, fillD, D.isBot, D.cells, ne_eq, not_true_eq_false, Nat.reduceGT, or_self, splice, List.nil_append, List.append_nil, hput_c, hput_n]
  refine acall nt [56] ⟨.refl _, .refl _, vec_ints [x] (by simp) rfl rfl, trivial⟩ (.inr (.tup _ (by intro d hd; simp at hd; rcases hd with rfl | rfl <;> exact .val _))) (by intro g hg; simp at hg; subst hg; exact ⟨_, rfl⟩) (by kernel_rfl) ?_
  simp (config := {maxSteps := 10000000}) (disch := first | exact okYes (by kernel_rfl) | omega) only [Int.reduceNeg, Nat.reduceAdd, St.app, putO, dI, eput_c, Nat.reduceBEq, eput_n, cond_false, hups, ARun_none, AOpRun, aexec, FSt.ev, St.F, eget_c, ↓eget_h, AGo_ok, List.map, opt1, Option.map, List.getElem?_cons_zero, List.getElem?_cons_succ, beq_self_eq_true, cond_true, ARun_nil, dropE_c, inL_c, inL_n, dropE_n]
  (have hg : (987654321 : Nat) - 987654321 = 0 := rfl; have hr := hg; repeat' (first | refine aw_seq ?_ | (refine aw_skip ?_; repeat' (first | with_reducible refine thenQ_n ?_ | with_reducible refine blockQ_n ?_ | with_reducible refine thenQ_e ?_ | with_reducible refine blockQ_t ?_ | with_reducible refine blockQ_f (by decide) ?_)) | (refine aw_exit ?_; repeat' (first | with_reducible refine thenQ_n ?_ | with_reducible refine blockQ_n ?_ | with_reducible refine thenQ_e ?_ | with_reducible refine blockQ_t ?_ | with_reducible refine blockQ_f (by decide) ?_)) | refine aw_ret ?_ | refine aw_block ?_ | refine aw_condT rfl ?_ | refine aw_condF rfl ?_ | ((first | refine aw_hide fun K hK => aw_region ?_ | refine ago_if (by omega) ?_ | skip); simp (config := {maxSteps := 10000000}) (disch := first | exact okYes (by kernel_rfl) | omega) only [List.length, Nat.zero_add, Nat.reduceAdd, Nat.reduceMul, ARun_none, AOpRun, aexec, FSt.ev, St.F, eget_c, Nat.reduceBEq, ↓eget_h, cond_false, AGo_ok, St.app, putO, eput_c, eput_n, hups, List.map, isSh, Bool.false_eq_true, ↓reduceIte, Option.map, abin, h1, ARun_nil, dropE_c, inL_c, inL_n, beq_self_eq_true, cond_true, dropE_n, hget_c, ↓hget_h, D.isBot, D.cells, Nat.reduceLeDiff, List.all, D.leaf, Bool.and_true, and_self, splice, List.take, List.nil_append, List.drop, List.append_nil, hput_c, hput_n, thenQ]) | (subst hK; repeat' (first | with_reducible refine thenQ_n ?_ | with_reducible refine blockQ_n ?_ | with_reducible refine thenQ_e ?_ | with_reducible refine blockQ_t ?_ | with_reducible refine blockQ_f (by decide) ?_))))
  (refine end_to [] [] (by first | exact .inl rfl | exact .inr rfl) rfl (by kernel_rfl) (by kernel_rfl) (by kernel_rfl) ?_ ?_ <;> repeat' (first | exact trivial | exact vr_val _ | apply vr_tup | apply And.intro))
noncomputable def peakR (l : Lay) (frs : List (List Int)) (x : Int) : Int × Int × Int := if wfE l frs [x] = 0 then (if (pkS l (fAt l x.toNat) frs frs.length).1 < 0 then (0, 0, 3) else ((pkS l (fAt l x.toNat) frs frs.length).1, (pkS l (fAt l x.toNat) frs frs.length).2, 0)) else (0, 0, wfE l frs [x])
theorem peak_ac (l : Lay) (frs : List (List Int)) (x : Int) (hl : LayIn l) (hf : FrIn frs) : AC Try.prog 20 [layD l, .list (rows frs), dI x] [] [] (.tup [dI (peakR l frs x).1, dI (peakR l frs x).2.1, dI (peakR l frs x).2.2]) := by
  unfold peakR
  by_cases h : wfE l frs [x] = 0
  · obtain ⟨h1, h2, _, k, rfl, hk⟩ := wfE_ok h
    have := peak_ok l frs k hl h1 h2 hf hk
    rw [if_pos h, Int.toNat_natCast]
    by_cases hp : (pkS l (fAt l k) frs frs.length).1 < 0
    · rw [if_pos hp] at this ⊢; exact this
    · rw [if_neg hp] at this ⊢; exact this
  · rw [if_neg h]; exact peak_err l frs x hl h hf
end Go.Proofs.Ytdcodicoclecnaa
/- A vibration, its check and its average, in numbers. No conditions. -/
namespace Go.Proofs.Ytdcodicoclecnaa
open Go.RowKit Lift

def iat (l : List Int) (k : Nat) : Int := l[k]?.getD 0
def allI (l : List Int) (a b : Int) : Bool := l.all fun x => wI x a b
def risI (l : List Int) : Bool := (List.range l.length).all fun i => i == 0 || decide (iat l (i - 1) < iat l i)
theorem allI_get {l : List Int} {a b : Int} (h : allI l a b = true) (k : Nat) (hk : k < l.length) : a ≤ iat l k ∧ iat l k ≤ b := by
  have := List.all_eq_true.1 h l[k] (List.getElem_mem hk)
  have e : iat l k = l[k] := by simp [iat, hk]
  rw [e]; exact wI_t this
theorem allI_no {l : List Int} {a b : Int} {k : Nat} (hk : k < l.length) (h : wI (iat l k) a b = false) : allI l a b = false := by
  have e : iat l k = l[k] := by simp [iat, hk]
  exact List.all_eq_false.2 ⟨l[k], List.getElem_mem hk, by rw [← e, h]; simp⟩
theorem allI_yes {l : List Int} {a b : Int} (h : ∀ j, j < l.length → wI (iat l j) a b = true) : allI l a b = true := by
  refine List.all_eq_true.2 fun x hx => ?_
  obtain ⟨j, hj, rfl⟩ := List.getElem_of_mem hx
  have := h j hj
  simpa [iat, hj] using this
theorem risI_get {l : List Int} (h : risI l = true) (k : Nat) (hk : k + 1 < l.length) : iat l k < iat l (k + 1) := by
  have := List.all_eq_true.1 h (k + 1) (List.mem_range.2 hk)
  simpa using this
theorem risI_no {l : List Int} {k : Nat} (h0 : 0 < k) (hk : k < l.length) (h : iat l k ≤ iat l (k - 1)) : risI l = false := by
  refine List.all_eq_false.2 ⟨k, List.mem_range.2 hk, ?_⟩
  have : k ≠ 0 := by omega
  simp [this]; omega
theorem risI_yes {l : List Int} (h : ∀ j, j < l.length → 0 < j → iat l (j - 1) < iat l j) : risI l = true := by
  refine List.all_eq_true.2 fun j hj => ?_
  rcases Nat.eq_zero_or_pos j with rfl | h0
  · rfl
  · simp [h j (List.mem_range.1 hj) h0]
def vibB (s m : List Int) : Bool := decide (s.length ≤ 400) && (allI s (-100) 100 && (wI (m.length : Int) 2 9 && (allI m 0 ((s.length : Int) - 1) && risI m)))
def vibE (s m : List Int) : Int := if vibB s m = true then 0 else 80
structure VibOk (s m : List Int) : Prop where
  sl : s.length ≤ 400
  sb : ∀ k, k < s.length → -100 ≤ iat s k ∧ iat s k ≤ 100
  ml : 2 ≤ m.length
  mh : m.length ≤ 9
  mb : ∀ k, k < m.length → 0 ≤ iat m k ∧ iat m k ≤ (s.length : Int) - 1
  mr : ∀ k, k + 1 < m.length → iat m k < iat m (k + 1)
theorem vib_ok {s m : List Int} (h : vibB s m = true) : VibOk s m := by
  unfold vibB at h
  simp only [Bool.and_eq_true, decide_eq_true_eq] at h
  obtain ⟨h1, h2, h3, h4, h5⟩ := h
  have h3 := wI_t h3
  exact ⟨h1, allI_get h2, by omega, by omega, allI_get h4, risI_get h5⟩
theorem vibE_cases (s m : List Int) : (vibE s m = 0 ∧ VibOk s m) ∨ vibE s m = 80 := by
  unfold vibE
  split
  · rename_i h; exact .inl ⟨rfl, vib_ok h⟩
  · exact .inr rfl
/-- n times the value at a point of a turn -/
def avW (m : List Int) (i : Nat) : Nat := (iat m (i + 1) - iat m i).toNat
def avV (s m : List Int) (n i k : Nat) : Int :=
  if k * avW m i % n = 0 then (n : Int) * iat s ((iat m i).toNat + k * avW m i / n)
  else ((n : Int) - (k * avW m i % n : Nat)) * iat s ((iat m i).toNat + k * avW m i / n) + ((k * avW m i % n : Nat) : Int) * iat s ((iat m i).toNat + k * avW m i / n + 1)
def avS (s m : List Int) (n : Nat) : Nat → Nat → Int
  | 0, _ => 0
  | i + 1, k => avS s m n i k + avV s m n i k
def sumL (s m : List Int) (n i k : Nat) : List Int := (List.range n).map fun j => avS s m n (if j < k then i + 1 else i) j
theorem sumL_len (s m : List Int) (n i k : Nat) : (sumL s m n i k).length = n := by simp [sumL]
theorem sumL_zero (s m : List Int) (n : Nat) : sumL s m n 0 0 = List.replicate n 0 := by
  refine List.ext_getElem (by simp [sumL]) fun j h1 h2 => ?_
  simp [sumL, avS]
theorem sumL_end (s m : List Int) (n i : Nat) : sumL s m n i n = sumL s m n (i + 1) 0 := by
  refine List.ext_getElem (by simp [sumL]) fun j h1 h2 => ?_
  have : j < n := by simpa [sumL] using h1
  simp [sumL, this]
theorem sumL_get (s m : List Int) (n i k : Nat) (h : k < n) : (sumL s m n i k)[k]?.getD 0 = avS s m n i k := by simp [sumL, h]
theorem sumL_set (s m : List Int) (n i k : Nat) (h : k < n) : (sumL s m n i k).set k (avS s m n i k + avV s m n i k) = sumL s m n i (k + 1) := by
  refine List.ext_getElem (by simp [sumL]) fun j h1 h2 => ?_
  have hj : j < n := by simpa [sumL] using h2
  rw [List.getElem_set]
  by_cases hkj : k = j
  · subst hkj
    simp [sumL, avS]
  · simp only [hkj, if_false]
    simp only [sumL, List.getElem_map, List.getElem_range]
    rcases (by omega : j < k ∨ k < j) with h3 | h3
    · simp [h3, show j < k + 1 by omega]
    · simp [show ¬ j < k by omega, show ¬ j < k + 1 by omega]
theorem turn_ok {s m : List Int} (h : VibOk s m) {i : Nat} (hi : i + 1 < m.length) : ∃ a w : Nat, iat m i = a ∧ iat m (i + 1) = ((a + w : Nat) : Int) ∧ 0 < w ∧ a + w < s.length ∧ avW m i = w ∧ (iat m i).toNat = a := by
  have h1 := h.mb i (by omega)
  have h2 := h.mb (i + 1) hi
  have h3 := h.mr i hi
  refine ⟨(iat m i).toNat, avW m i, by omega, by unfold avW; omega, by unfold avW; omega, by unfold avW; omega, rfl, rfl⟩
theorem quo_lt {n k w : Nat} (hk : k < n) (hw : 0 < w) : k * w / n < w := Nat.div_lt_of_lt_mul (Nat.mul_lt_mul_of_pos_right hk hw)
theorem avV_bd {s m : List Int} (h : VibOk s m) {n i k : Nat} (hi : i + 1 < m.length) (hk : k < n) : -(100 * (n : Int)) ≤ avV s m n i k ∧ avV s m n i k ≤ 100 * (n : Int) := by
  obtain ⟨a, w, h1, h2, h3, h4, h5, h6⟩ := turn_ok h hi
  unfold avV
  rw [h5, h6]
  have hq := quo_lt hk h3
  have hr : k * w % n < n := Nat.mod_lt _ (by omega)
  generalize k * w / n = q at *
  generalize k * w % n = r at *
  have s1 := h.sb (a + q) (by omega)
  have s2 := h.sb (a + q + 1) (by omega)
  split
  · have := mul_bd (A := n) (B := 100) (a := n) (b := iat s (a + q)) (by omega) (by omega) s1.1 s1.2
    omega
  · have t1 := mul_bd (A := (n : Int) - r) (B := 100) (a := (n : Int) - r) (b := iat s (a + q)) (by omega) (by omega) s1.1 s1.2
    have t2 := mul_bd (A := r) (B := 100) (a := (r : Int)) (b := iat s (a + q + 1)) (by omega) (by omega) s2.1 s2.2
    omega
theorem avS_bd {s m : List Int} (h : VibOk s m) {n k : Nat} (hk : k < n) (hn : n ≤ 24) : ∀ i, i + 1 ≤ m.length → -(2400 * (i : Int)) ≤ avS s m n i k ∧ avS s m n i k ≤ 2400 * (i : Int)
  | 0, _ => by simp [avS]
  | i + 1, hi => by
    have ih := avS_bd h hk hn i (by omega)
    have := avV_bd h (n := n) (i := i) (k := k) (by omega) hk
    simp only [avS]
    omega
def avE (s m : List Int) (n : Int) : Int := if vibE s m = 0 then (if wI n 1 24 = true then 0 else 1) else vibE s m
def avL (s m : List Int) (n : Int) : List Int := if avE s m n = 0 then sumL s m n.toNat (m.length - 1) 0 else []
def avD (s m : List Int) (n : Int) : Int := if avE s m n = 0 then n * ((m.length : Int) - 1) else 0
theorem avL_no {s m : List Int} {n : Int} (h : avE s m n ≠ 0) : avL s m n = [] := if_neg h
theorem avD_no {s m : List Int} {n : Int} (h : avE s m n ≠ 0) : avD s m n = 0 := if_neg h
theorem avE_ok {s m : List Int} {n : Int} (h : avE s m n = 0) : vibE s m = 0 ∧ VibOk s m ∧ wI n 1 24 = true := by
  unfold avE at h
  rcases vibE_cases s m with ⟨h0, h1⟩ | h0
  · rw [if_pos h0] at h
    cases hw : wI n 1 24 with
    | true => exact ⟨h0, h1, rfl⟩
    | false => rw [hw] at h; simp at h
  · rw [h0] at h; simp at h
theorem avL_len (s m : List Int) (n : Int) : (avL s m n).length ≤ 24 := by
  unfold avL
  by_cases h : avE s m n = 0
  · rw [if_pos h, sumL_len]
    have := wI_t (avE_ok h).2.2
    omega
  · rw [if_neg h]; simp
end Go.Proofs.Ytdcodicoclecnaa
/- The functions' bodies, translated. Written by a program; no conditions. -/
namespace Go.Proofs.Ytdcodicoclecnaa
open Go.RowKit Lift

/-- health_Average -/
def chealth_Average : ACode :=
  (.seq
   (.region false [⟨some 2, .box (.tmp 0), none, []⟩,
     ⟨some 4, .mv (.const (.slice none 0 0)), none, []⟩,
     ⟨some 5, .mv (.const (.int .i64 0)), none, []⟩,
     ⟨some 6, .mv (.const (.int .i64 0)), none, []⟩] [])
  (.seq
   (.seq
    (.region false [⟨some 14, .loadN 2 (.tmp 2), none, []⟩,
      ⟨some 15, .call (.func 98) [(.tmp 14)], none, []⟩,
      ⟨some 7, .mv (.tmp 15), none, []⟩] [14, 15])
   (.seq
    (.region false [⟨some 16, .mv (.tmp 7), none, []⟩,
      ⟨some 17, .bin .neq (.tmp 16) (.const (.int .i64 0)), none, []⟩] [16])
   (.cond (.tmp 17)
     (.seq
      (.region false [⟨some 18, .mv (.tmp 7), none, []⟩,
        ⟨some 4, .mv (.const (.slice none 0 0)), none, []⟩,
        ⟨some 5, .mv (.const (.int .i64 0)), none, []⟩,
        ⟨some 6, .mv (.tmp 18), none, []⟩] [18])
     .ret)
     .skip)))
  (.seq
   (.seq
    (.region false [⟨some 19, .mv (.tmp 1), none, []⟩,
      ⟨some 20, .call (.func 99) [(.tmp 19), (.const (.int .i64 1)), (.const (.int .i64 24))], none, []⟩,
      ⟨some 21, .un .not (.tmp 20), none, []⟩] [19, 20])
   (.cond (.tmp 21)
     (.seq
      (.region false [⟨some 4, .mv (.const (.slice none 0 0)), none, []⟩,
        ⟨some 5, .mv (.const (.int .i64 0)), none, []⟩,
        ⟨some 6, .mv (.const (.int .i64 1)), none, []⟩] [])
     .ret)
     .skip))
  (.seq
   (.region false [⟨some 22, .mv (.tmp 1), none, []⟩,
     ⟨some 23, .mksl 1 8 [(.val (.int .i64 0))] (.tmp 22) (.tmp 22), none, []⟩,
     ⟨some 4, .mv (.tmp 23), none, []⟩] [22, 23])
  (.seq
   (.seq
    (.region false [⟨some 24, .fad 1 (.tmp 2), none, []⟩,
      ⟨some 25, .load1 (.tmp 24), none, []⟩,
      ⟨some 26, .len_ (.tmp 25), none, []⟩,
      ⟨some 27, .bin .sub (.tmp 26) (.const (.int .i64 1)), none, []⟩,
      ⟨some 28, .mv (.const (.int .i64 0)), none, []⟩] [24, 25, 26])
   (.block 0
     (.loop
       (.seq
        (.region false [⟨some 29, .bin .lss (.tmp 28) (.tmp 27), none, []⟩] [])
       (.seq
        (.cond (.tmp 29)
          .skip
          (.exit 0))
       (.seq
        (.block 1
          (.seq
           (.region false [⟨some 30, .mv (.tmp 28), none, []⟩,
             ⟨some 8, .mv (.tmp 30), none, []⟩] [30])
          (.seq
           (.region true [⟨some 31, .fad 1 (.tmp 2), none, []⟩,
             ⟨some 32, .load1 (.tmp 31), none, [0]⟩,
             ⟨some 33, .mv (.tmp 8), none, []⟩,
             ⟨some 34, .iadS 1 (.tmp 32) (.tmp 33), none, [1, 0, 2]⟩,
             ⟨some 35, .load1 (.tmp 34), none, [3, 1, 0, 2]⟩,
             ⟨some 36, .fad 1 (.tmp 2), none, []⟩,
             ⟨some 37, .load1 (.tmp 36), none, [5]⟩,
             ⟨some 38, .mv (.tmp 8), none, []⟩,
             ⟨some 39, .bin .add (.tmp 38) (.const (.int .i64 1)), none, [7]⟩,
             ⟨some 40, .iadS 1 (.tmp 37) (.tmp 39), none, [6, 5, 8, 7]⟩,
             ⟨some 41, .load1 (.tmp 40), none, [9, 6, 5, 8, 7]⟩,
             ⟨some 9, .mv (.tmp 35), none, [4, 3, 1, 0, 2]⟩,
             ⟨some 10, .mv (.tmp 41), none, [10, 9, 6, 5, 8, 7, 11, 4, 3, 1, 0, 2]⟩] [31, 32, 33, 34, 35, 36, 37, 38, 39, 40, 41])
          (.seq
           (.region false [⟨some 42, .mv (.tmp 4), none, []⟩,
             ⟨some 43, .len_ (.tmp 42), none, []⟩,
             ⟨some 44, .mv (.const (.int .i64 0)), none, []⟩] [42])
          (.block 2
            (.loop
              (.seq
               (.region false [⟨some 45, .bin .lss (.tmp 44) (.tmp 43), none, []⟩] [])
              (.seq
               (.cond (.tmp 45)
                 .skip
                 (.exit 2))
              (.seq
               (.block 3
                 (.seq
                  (.region false [⟨some 46, .mv (.tmp 44), none, []⟩,
                    ⟨some 11, .mv (.tmp 46), none, []⟩] [46])
                 (.seq
                  (.region true [⟨some 47, .mv (.tmp 11), none, []⟩,
                    ⟨some 48, .mv (.tmp 10), none, []⟩,
                    ⟨some 49, .mv (.tmp 9), none, []⟩,
                    ⟨some 50, .bin .sub (.tmp 48) (.tmp 49), none, [1, 2]⟩,
                    ⟨some 51, .bin .mul (.tmp 47) (.tmp 50), none, [0, 3, 1, 2]⟩,
                    ⟨some 52, .mv (.tmp 1), none, []⟩,
                    ⟨some 53, .bin .quo (.tmp 51) (.tmp 52), none, [4, 0, 3, 1, 2, 5]⟩,
                    ⟨some 54, .mv (.tmp 11), none, []⟩,
                    ⟨some 55, .mv (.tmp 10), none, []⟩,
                    ⟨some 56, .mv (.tmp 9), none, []⟩,
                    ⟨some 57, .bin .sub (.tmp 55) (.tmp 56), none, [8, 9]⟩,
                    ⟨some 58, .bin .mul (.tmp 54) (.tmp 57), none, [7, 10, 8, 9]⟩,
                    ⟨some 59, .mv (.tmp 1), none, []⟩,
                    ⟨some 60, .bin .rem (.tmp 58) (.tmp 59), none, [11, 7, 10, 8, 9, 12]⟩,
                    ⟨some 12, .mv (.tmp 53), none, [6, 4, 0, 3, 1, 2, 5]⟩,
                    ⟨some 13, .mv (.tmp 60), none, [13, 11, 7, 10, 8, 9, 12, 14, 6, 4, 0, 3, 1, 2, 5]⟩] [47, 48, 49, 50, 51, 52, 53, 54, 55, 56, 57, 58, 59, 60])
                 (.seq
                  (.region true [⟨some 61, .mv (.tmp 4), none, []⟩,
                    ⟨some 62, .mv (.tmp 11), none, []⟩,
                    ⟨some 63, .iadS 1 (.tmp 61) (.tmp 62), none, [0, 1]⟩,
                    ⟨some 64, .load1 (.tmp 63), none, [2, 0, 1]⟩,
                    ⟨some 65, .mv (.tmp 1), none, []⟩,
                    ⟨some 66, .mv (.tmp 13), none, []⟩,
                    ⟨some 67, .bin .sub (.tmp 65) (.tmp 66), none, [4, 5]⟩,
                    ⟨some 68, .fad 0 (.tmp 2), none, []⟩,
                    ⟨some 69, .load1 (.tmp 68), none, [7]⟩,
                    ⟨some 70, .mv (.tmp 9), none, []⟩,
                    ⟨some 71, .mv (.tmp 12), none, []⟩,
                    ⟨some 72, .bin .add (.tmp 70) (.tmp 71), none, [9, 10]⟩,
                    ⟨some 73, .iadS 1 (.tmp 69) (.tmp 72), none, [8, 7, 11, 9, 10]⟩,
                    ⟨some 74, .load1 (.tmp 73), none, [12, 8, 7, 11, 9, 10]⟩,
                    ⟨some 75, .bin .mul (.tmp 67) (.tmp 74), none, [6, 4, 5, 13, 12, 8, 7, 11, 9, 10]⟩,
                    ⟨some 76, .bin .add (.tmp 64) (.tmp 75), none, [3, 2, 0, 1, 14, 6, 4, 5, 13, 12, 8, 7, 11, 9, 10]⟩,
                    ⟨some 77, .iadS 1 (.tmp 61) (.tmp 62), none, [0, 1, 2, 3, 4, 5, 6, 7, 8, 9, 10, 11, 12, 13, 14, 15]⟩,
                    ⟨none, .store 1 (.tmp 77) (.tmp 76), none, [16, 0, 1, 2, 3, 4, 5, 6, 7, 8, 9, 10, 11, 12, 13, 14, 15]⟩] [61, 62, 63, 64, 65, 66, 67, 68, 69, 70, 71, 72, 73, 74, 75, 76, 77])
                 (.seq
                  (.region false [⟨some 78, .mv (.tmp 13), none, []⟩,
                    ⟨some 79, .bin .gtr (.tmp 78) (.const (.int .i64 0)), none, []⟩] [78])
                 (.cond (.tmp 79)
                   (.region true [⟨some 80, .mv (.tmp 4), none, []⟩,
                     ⟨some 81, .mv (.tmp 11), none, []⟩,
                     ⟨some 82, .iadS 1 (.tmp 80) (.tmp 81), none, [0, 1]⟩,
                     ⟨some 83, .load1 (.tmp 82), none, [2, 0, 1]⟩,
                     ⟨some 84, .mv (.tmp 13), none, []⟩,
                     ⟨some 85, .fad 0 (.tmp 2), none, []⟩,
                     ⟨some 86, .load1 (.tmp 85), none, [5]⟩,
                     ⟨some 87, .mv (.tmp 9), none, []⟩,
                     ⟨some 88, .mv (.tmp 12), none, []⟩,
                     ⟨some 89, .bin .add (.tmp 87) (.tmp 88), none, [7, 8]⟩,
                     ⟨some 90, .bin .add (.tmp 89) (.const (.int .i64 1)), none, [9, 7, 8]⟩,
                     ⟨some 91, .iadS 1 (.tmp 86) (.tmp 90), none, [6, 5, 10, 9, 7, 8]⟩,
                     ⟨some 92, .load1 (.tmp 91), none, [11, 6, 5, 10, 9, 7, 8]⟩,
                     ⟨some 93, .bin .mul (.tmp 84) (.tmp 92), none, [4, 12, 11, 6, 5, 10, 9, 7, 8]⟩,
                     ⟨some 94, .bin .add (.tmp 83) (.tmp 93), none, [3, 2, 0, 1, 13, 4, 12, 11, 6, 5, 10, 9, 7, 8]⟩,
                     ⟨some 95, .iadS 1 (.tmp 80) (.tmp 81), none, [0, 1, 2, 3, 4, 5, 6, 7, 8, 9, 10, 11, 12, 13, 14]⟩,
                     ⟨none, .store 1 (.tmp 95) (.tmp 94), none, [15, 0, 1, 2, 3, 4, 5, 6, 7, 8, 9, 10, 11, 12, 13, 14]⟩] [80, 81, 82, 83, 84, 85, 86, 87, 88, 89, 90, 91, 92, 93, 94, 95])
                   .skip))))))
              (.region false [⟨some 96, .bin .add (.tmp 44) (.const (.int .i64 1)), none, []⟩,
                ⟨some 44, .mv (.tmp 96), none, []⟩] [96]))))))))))
       (.region false [⟨some 97, .bin .add (.tmp 28) (.const (.int .i64 1)), none, []⟩,
         ⟨some 28, .mv (.tmp 97), none, []⟩] [97])))))))
  (.seq
   (.region true [⟨some 98, .mv (.tmp 4), none, []⟩,
     ⟨some 99, .mv (.tmp 1), none, []⟩,
     ⟨some 100, .fad 1 (.tmp 2), none, []⟩,
     ⟨some 101, .load1 (.tmp 100), none, [2]⟩,
     ⟨some 102, .len_ (.tmp 101), none, [3, 2]⟩,
     ⟨some 103, .bin .sub (.tmp 102) (.const (.int .i64 1)), none, [4, 3, 2]⟩,
     ⟨some 104, .bin .mul (.tmp 99) (.tmp 103), none, [1, 5, 4, 3, 2]⟩,
     ⟨some 4, .mv (.tmp 98), none, [0]⟩,
     ⟨some 5, .mv (.tmp 104), none, [6, 1, 5, 4, 3, 2, 7, 0]⟩,
     ⟨some 6, .mv (.const (.int .i64 0)), none, [8, 6, 1, 5, 4, 3, 2, 7, 0]⟩] [98, 99, 100, 101, 102, 103, 104])
  .ret))))))
set_option maxRecDepth 100000 in
theorem khealth_Average : IsCode Try.prog 54 105 chealth_Average [.tmp 4, .tmp 5, .tmp 6] :=
  ⟨Try.f54, _, [79, 45, 29, 21, 17, 0, 2, 7, 1, 28, 27, 8, 4, 44, 43, 11, 10, 9, 13, 12, 5, 6], Try.func54, rfl, by decide, rfl, by kernel_rfl, by kernel_rfl⟩
/-- health_Check -/
def chealth_Check : ACode :=
  (.seq
   (.region false [⟨some 1, .box (.tmp 0), none, []⟩,
     ⟨some 2, .mv (.const (.int .i64 0)), none, []⟩] [])
  (.seq
   (.seq
    (.region false [⟨some 3, .fad 0 (.tmp 1), none, []⟩,
      ⟨some 4, .load1 (.tmp 3), none, []⟩,
      ⟨some 5, .len_ (.tmp 4), none, []⟩,
      ⟨some 6, .bin .gtr (.tmp 5) (.const (.int .i64 400)), none, []⟩,
      ⟨some 7, .mv (.tmp 6), none, []⟩,
      ⟨some 8, .fad 0 (.tmp 1), (some (some 7, false)), []⟩,
      ⟨some 9, .load1 (.tmp 8), (some (some 7, false)), []⟩,
      ⟨some 10, .call (.func 131) [(.tmp 9), (.const (.int .i64 (-100))), (.const (.int .i64 100))], (some (some 7, false)), []⟩,
      ⟨some 11, .un .not (.tmp 10), (some (some 7, false)), []⟩,
      ⟨some 12, .pick (.tmp 7) (.const (.bool true)) (.tmp 11), none, []⟩,
      ⟨some 13, .mv (.tmp 12), none, []⟩,
      ⟨some 14, .fad 1 (.tmp 1), (some (some 13, false)), []⟩,
      ⟨some 15, .load1 (.tmp 14), (some (some 13, false)), []⟩,
      ⟨some 16, .len_ (.tmp 15), (some (some 13, false)), []⟩,
      ⟨some 17, .call (.func 99) [(.tmp 16), (.const (.int .i64 2)), (.const (.int .i64 9))], (some (some 13, false)), []⟩,
      ⟨some 18, .un .not (.tmp 17), (some (some 13, false)), []⟩,
      ⟨some 19, .pick (.tmp 13) (.const (.bool true)) (.tmp 18), none, []⟩,
      ⟨some 20, .mv (.tmp 19), none, []⟩,
      ⟨some 21, .fad 1 (.tmp 1), (some (some 20, false)), []⟩,
      ⟨some 22, .load1 (.tmp 21), (some (some 20, false)), []⟩,
      ⟨some 23, .fad 0 (.tmp 1), (some (some 20, false)), []⟩,
      ⟨some 24, .load1 (.tmp 23), (some (some 20, false)), []⟩,
      ⟨some 25, .len_ (.tmp 24), (some (some 20, false)), []⟩,
      ⟨some 26, .bin .sub (.tmp 25) (.const (.int .i64 1)), (some (some 20, false)), []⟩,
      ⟨some 27, .call (.func 131) [(.tmp 22), (.const (.int .i64 0)), (.tmp 26)], (some (some 20, false)), []⟩,
      ⟨some 28, .un .not (.tmp 27), (some (some 20, false)), []⟩,
      ⟨some 29, .pick (.tmp 20) (.const (.bool true)) (.tmp 28), none, []⟩,
      ⟨some 30, .mv (.tmp 29), none, []⟩,
      ⟨some 31, .fad 1 (.tmp 1), (some (some 30, false)), []⟩,
      ⟨some 32, .load1 (.tmp 31), (some (some 30, false)), []⟩,
      ⟨some 33, .call (.func 132) [(.tmp 32)], (some (some 30, false)), []⟩,
      ⟨some 34, .un .not (.tmp 33), (some (some 30, false)), []⟩,
      ⟨some 35, .pick (.tmp 30) (.const (.bool true)) (.tmp 34), none, []⟩] [3, 4, 5, 6, 7, 8, 9, 10, 11, 12, 13, 14, 15, 16, 17, 18, 19, 20, 21, 22, 23, 24, 25, 26, 27, 28, 29, 30, 31, 32, 33, 34])
   (.cond (.tmp 35)
     (.seq
      (.region false [⟨some 2, .mv (.const (.int .i64 80)), none, []⟩] [])
     .ret)
     .skip))
  (.seq
   (.region false [⟨some 2, .mv (.const (.int .i64 0)), none, []⟩] [])
  .ret)))
set_option maxRecDepth 100000 in
theorem khealth_Check : IsCode Try.prog 98 36 chealth_Check [.tmp 2] :=
  ⟨Try.f98, _, [35, 0, 1, 2], Try.func98, rfl, by decide, rfl, by kernel_rfl, by kernel_rfl⟩
/-- health_all -/
def chealth_all : ACode :=
  (.seq
   (.region false [⟨some 4, .box (.tmp 1), none, []⟩,
     ⟨some 5, .box (.tmp 2), none, []⟩,
     ⟨some 6, .mv (.const (.bool false)), none, []⟩] [])
  (.seq
   (.region false [⟨some 7, .mv (.tmp 0), none, []⟩,
     ⟨some 8, .mkfn 152 [] [(.tmp 4), (.tmp 5)], none, []⟩,
     ⟨some 9, .call (.func 110) [(.tmp 7), (.tmp 8)], none, []⟩,
     ⟨some 10, .un .not (.tmp 9), none, []⟩,
     ⟨some 6, .mv (.tmp 10), none, []⟩] [7, 8, 9, 10])
  .ret))
set_option maxRecDepth 100000 in
theorem khealth_all : IsCode Try.prog 131 11 chealth_all [.tmp 6] :=
  ⟨Try.f131, _, [1, 2, 0, 4, 5, 6], Try.func131, rfl, by decide, rfl, by kernel_rfl, by kernel_rfl⟩
/-- health_all_S1 -/
def chealth_all_S1 : ACode :=
  (.seq
   (.region false [⟨some 4, .mv (.const (.bool false)), none, []⟩] [])
  (.seq
   (.region false [⟨some 5, .mv (.tmp 0), none, []⟩,
     ⟨some 6, .load1 (.tmp 1), none, []⟩,
     ⟨some 7, .load1 (.tmp 2), none, []⟩,
     ⟨some 8, .call (.func 99) [(.tmp 5), (.tmp 6), (.tmp 7)], none, []⟩,
     ⟨some 9, .un .not (.tmp 8), none, []⟩,
     ⟨some 4, .mv (.tmp 9), none, []⟩] [5, 6, 7, 8, 9])
  .ret))
set_option maxRecDepth 100000 in
theorem khealth_all_S1 : IsCode Try.prog 152 10 chealth_all_S1 [.tmp 4] :=
  ⟨Try.f152, _, [0, 1, 2, 4], Try.func152, rfl, by decide, rfl, by kernel_rfl, by kernel_rfl⟩
/-- health_rising -/
def chealth_rising : ACode :=
  (.seq
   (.region false [⟨some 2, .mv (.const (.bool false)), none, []⟩] [])
  (.seq
   (.seq
    (.region false [⟨some 4, .mv (.tmp 0), none, []⟩,
      ⟨some 5, .len_ (.tmp 4), none, []⟩,
      ⟨some 6, .mv (.const (.int .i64 0)), none, []⟩] [4])
   (.block 0
     (.loop
       (.seq
        (.region false [⟨some 7, .bin .lss (.tmp 6) (.tmp 5), none, []⟩] [])
       (.seq
        (.cond (.tmp 7)
          .skip
          (.exit 0))
       (.seq
        (.block 1
          (.seq
           (.region false [⟨some 8, .mv (.tmp 6), none, []⟩,
             ⟨some 3, .mv (.tmp 8), none, []⟩] [8])
          (.seq
           (.region true [⟨some 9, .mv (.tmp 3), none, []⟩,
             ⟨some 10, .bin .gtr (.tmp 9) (.const (.int .i64 0)), none, [0]⟩,
             ⟨some 11, .mv (.tmp 10), none, [1, 0]⟩,
             ⟨some 12, .mv (.tmp 0), (some (some 11, true)), [2, 1, 0]⟩,
             ⟨some 13, .mv (.tmp 3), (some (some 11, true)), [2, 1, 0]⟩,
             ⟨some 14, .iadS 1 (.tmp 12) (.tmp 13), (some (some 11, true)), [3, 2, 1, 0, 4]⟩,
             ⟨some 15, .load1 (.tmp 14), (some (some 11, true)), [5, 3, 2, 1, 0, 4]⟩,
             ⟨some 16, .mv (.tmp 0), (some (some 11, true)), [2, 1, 0]⟩,
             ⟨some 17, .mv (.tmp 3), (some (some 11, true)), [2, 1, 0]⟩,
             ⟨some 18, .bin .sub (.tmp 17) (.const (.int .i64 1)), (some (some 11, true)), [8, 2, 1, 0]⟩,
             ⟨some 19, .iadS 1 (.tmp 16) (.tmp 18), (some (some 11, true)), [7, 2, 1, 0, 9, 8]⟩,
             ⟨some 20, .load1 (.tmp 19), (some (some 11, true)), [10, 7, 2, 1, 0, 9, 8]⟩,
             ⟨some 21, .bin .leq (.tmp 15) (.tmp 20), (some (some 11, true)), [6, 5, 3, 2, 1, 0, 4, 11, 10, 7, 9, 8]⟩,
             ⟨some 22, .pick (.tmp 11) (.tmp 21) (.const (.bool false)), none, [2, 1, 0, 12, 6, 5, 3, 4, 11, 10, 7, 9, 8]⟩] [9, 10, 11, 12, 13, 14, 15, 16, 17, 18, 19, 20, 21])
          (.cond (.tmp 22)
            (.seq
             (.region false [⟨some 2, .mv (.const (.bool false)), none, []⟩] [])
            .ret)
            .skip))))
       (.region false [⟨some 23, .bin .add (.tmp 6) (.const (.int .i64 1)), none, []⟩,
         ⟨some 6, .mv (.tmp 23), none, []⟩] [23])))))))
  (.seq
   (.region false [⟨some 2, .mv (.const (.bool true)), none, []⟩] [])
  .ret)))
set_option maxRecDepth 100000 in
theorem khealth_rising : IsCode Try.prog 132 24 chealth_rising [.tmp 2] :=
  ⟨Try.f132, _, [22, 7, 0, 6, 5, 3, 2], Try.func132, rfl, by decide, rfl, by kernel_rfl, by kernel_rfl⟩
/-- health_within -/
def chealth_within : ACode :=
  (.seq
   (.region false [⟨some 6, .mv (.const (.bool false)), none, []⟩] [])
  (.seq
   (.region false [⟨some 7, .mv (.tmp 0), none, []⟩,
     ⟨some 8, .mv (.tmp 1), none, []⟩,
     ⟨some 9, .bin .geq (.tmp 7) (.tmp 8), none, []⟩,
     ⟨some 10, .mv (.tmp 9), none, []⟩,
     ⟨some 11, .mv (.tmp 0), (some (some 10, true)), []⟩,
     ⟨some 12, .mv (.tmp 2), (some (some 10, true)), []⟩,
     ⟨some 13, .bin .leq (.tmp 11) (.tmp 12), (some (some 10, true)), []⟩,
     ⟨some 14, .pick (.tmp 10) (.tmp 13) (.const (.bool false)), none, []⟩,
     ⟨some 6, .mv (.tmp 14), none, []⟩] [7, 8, 9, 10, 11, 12, 13, 14])
  .ret))
set_option maxRecDepth 100000 in
theorem khealth_within : IsCode Try.prog 99 15 chealth_within [.tmp 6] :=
  ⟨Try.f99, _, [0, 1, 2, 6], Try.func99, rfl, by decide, rfl, by kernel_rfl, by kernel_rfl⟩
/-- ref08_Average -/
def cref08_Average : ACode :=
  (.seq
   (.region false [⟨some 2, .box (.tmp 0), none, []⟩,
     ⟨some 4, .mv (.const (.slice none 0 0)), none, []⟩,
     ⟨some 5, .mv (.const (.int .i64 0)), none, []⟩,
     ⟨some 6, .mv (.const (.int .i64 0)), none, []⟩] [])
  (.seq
   (.seq
    (.region false [⟨some 12, .loadN 2 (.tmp 2), none, []⟩,
      ⟨some 13, .call (.func 128) [(.tmp 12)], none, []⟩,
      ⟨some 7, .mv (.tmp 13), none, []⟩] [12, 13])
   (.seq
    (.region false [⟨some 14, .mv (.tmp 7), none, []⟩,
      ⟨some 15, .bin .neq (.tmp 14) (.const (.int .i64 0)), none, []⟩] [14])
   (.cond (.tmp 15)
     (.seq
      (.region false [⟨some 16, .mv (.tmp 7), none, []⟩,
        ⟨some 4, .mv (.const (.slice none 0 0)), none, []⟩,
        ⟨some 5, .mv (.const (.int .i64 0)), none, []⟩,
        ⟨some 6, .mv (.tmp 16), none, []⟩] [16])
     .ret)
     .skip)))
  (.seq
   (.seq
    (.region false [⟨some 17, .mv (.tmp 1), none, []⟩,
      ⟨some 18, .call (.func 129) [(.tmp 17), (.const (.int .i64 1)), (.const (.int .i64 24))], none, []⟩,
      ⟨some 19, .un .not (.tmp 18), none, []⟩] [17, 18])
   (.cond (.tmp 19)
     (.seq
      (.region false [⟨some 4, .mv (.const (.slice none 0 0)), none, []⟩,
        ⟨some 5, .mv (.const (.int .i64 0)), none, []⟩,
        ⟨some 6, .mv (.const (.int .i64 1)), none, []⟩] [])
     .ret)
     .skip))
  (.seq
   (.region false [⟨some 20, .mv (.tmp 1), none, []⟩,
     ⟨some 21, .mksl 1 8 [(.val (.int .i64 0))] (.tmp 20) (.tmp 20), none, []⟩,
     ⟨some 8, .mv (.tmp 21), none, []⟩] [20, 21])
  (.seq
   (.region false [⟨some 22, .fad 1 (.tmp 2), none, []⟩,
     ⟨some 23, .load1 (.tmp 22), none, []⟩,
     ⟨some 24, .len_ (.tmp 23), none, []⟩,
     ⟨some 25, .bin .sub (.tmp 24) (.const (.int .i64 1)), none, []⟩,
     ⟨some 9, .mv (.tmp 25), none, []⟩] [22, 23, 24, 25])
  (.seq
   (.seq
    (.region false [⟨some 10, .mv (.const (.int .i64 0)), none, []⟩] [])
   (.block 0
     (.loop
       (.seq
        (.seq
         (.region false [⟨some 26, .mv (.tmp 10), none, []⟩,
           ⟨some 27, .mv (.tmp 9), none, []⟩,
           ⟨some 28, .bin .lss (.tmp 26) (.tmp 27), none, []⟩] [26, 27])
        (.cond (.tmp 28)
          .skip
          (.exit 0)))
       (.seq
        (.block 1
          (.seq
           (.region false [⟨some 11, .mv (.const (.int .i64 0)), none, []⟩] [])
          (.block 2
            (.loop
              (.seq
               (.seq
                (.region false [⟨some 31, .mv (.tmp 11), none, []⟩,
                  ⟨some 32, .mv (.tmp 1), none, []⟩,
                  ⟨some 33, .bin .lss (.tmp 31) (.tmp 32), none, []⟩] [31, 32])
               (.cond (.tmp 33)
                 .skip
                 (.exit 2)))
              (.seq
               (.block 3
                 (.region true [⟨some 36, .mv (.tmp 8), none, []⟩,
                   ⟨some 37, .mv (.tmp 11), none, []⟩,
                   ⟨some 38, .iadS 1 (.tmp 36) (.tmp 37), none, [0, 1]⟩,
                   ⟨some 39, .load1 (.tmp 38), none, [2, 0, 1]⟩,
                   ⟨some 40, .loadN 2 (.tmp 2), none, []⟩,
                   ⟨some 41, .mv (.tmp 10), none, []⟩,
                   ⟨some 42, .mv (.tmp 11), none, []⟩,
                   ⟨some 43, .mv (.tmp 1), none, []⟩,
                   ⟨some 44, .call (.func 130) [(.tmp 40), (.tmp 41), (.tmp 42), (.tmp 43)], none, [4, 5, 6, 7]⟩,
                   ⟨some 45, .bin .add (.tmp 39) (.tmp 44), none, [3, 2, 0, 1, 8, 4, 5, 6, 7]⟩,
                   ⟨some 46, .iadS 1 (.tmp 36) (.tmp 37), none, [0, 1, 2, 3, 4, 5, 6, 7, 8, 9]⟩,
                   ⟨none, .store 1 (.tmp 46) (.tmp 45), none, [10, 0, 1, 2, 3, 4, 5, 6, 7, 8, 9]⟩] [36, 37, 38, 39, 40, 41, 42, 43, 44, 45, 46]))
              (.region false [⟨some 34, .mv (.tmp 11), none, []⟩,
                ⟨some 35, .bin .add (.tmp 34) (.const (.int .i64 1)), none, []⟩,
                ⟨some 11, .mv (.tmp 35), none, []⟩] [34, 35])))))))
       (.region false [⟨some 29, .mv (.tmp 10), none, []⟩,
         ⟨some 30, .bin .add (.tmp 29) (.const (.int .i64 1)), none, []⟩,
         ⟨some 10, .mv (.tmp 30), none, []⟩] [29, 30]))))))
  (.seq
   (.region false [⟨some 47, .mv (.tmp 8), none, []⟩,
     ⟨some 48, .mv (.tmp 1), none, []⟩,
     ⟨some 49, .mv (.tmp 9), none, []⟩,
     ⟨some 50, .bin .mul (.tmp 48) (.tmp 49), none, []⟩,
     ⟨some 4, .mv (.tmp 47), none, []⟩,
     ⟨some 5, .mv (.tmp 50), none, []⟩,
     ⟨some 6, .mv (.const (.int .i64 0)), none, []⟩] [47, 48, 49, 50])
  .ret)))))))
set_option maxRecDepth 100000 in
theorem kref08_Average : IsCode Try.prog 97 51 cref08_Average [.tmp 4, .tmp 5, .tmp 6] :=
  ⟨Try.f97, _, [33, 28, 19, 15, 0, 2, 7, 1, 10, 9, 11, 8, 4, 5, 6], Try.func97, rfl, by decide, rfl, by kernel_rfl, by kernel_rfl⟩
/-- ref08_Check -/
def cref08_Check : ACode :=
  (.seq
   (.region false [⟨some 1, .box (.tmp 0), none, []⟩,
     ⟨some 2, .mv (.const (.int .i64 0)), none, []⟩] [])
  (.seq
   (.seq
    (.region false [⟨some 5, .fad 0 (.tmp 1), none, []⟩,
      ⟨some 6, .load1 (.tmp 5), none, []⟩,
      ⟨some 7, .len_ (.tmp 6), none, []⟩,
      ⟨some 8, .bin .gtr (.tmp 7) (.const (.int .i64 400)), none, []⟩,
      ⟨some 9, .mv (.tmp 8), none, []⟩,
      ⟨some 10, .fad 1 (.tmp 1), (some (some 9, false)), []⟩,
      ⟨some 11, .load1 (.tmp 10), (some (some 9, false)), []⟩,
      ⟨some 12, .len_ (.tmp 11), (some (some 9, false)), []⟩,
      ⟨some 13, .call (.func 129) [(.tmp 12), (.const (.int .i64 2)), (.const (.int .i64 9))], (some (some 9, false)), []⟩,
      ⟨some 14, .un .not (.tmp 13), (some (some 9, false)), []⟩,
      ⟨some 15, .pick (.tmp 9) (.const (.bool true)) (.tmp 14), none, []⟩] [5, 6, 7, 8, 9, 10, 11, 12, 13, 14])
   (.cond (.tmp 15)
     (.seq
      (.region false [⟨some 2, .mv (.const (.int .i64 80)), none, []⟩] [])
     .ret)
     .skip))
  (.seq
   (.seq
    (.region false [⟨some 3, .mv (.const (.int .i64 0)), none, []⟩] [])
   (.block 0
     (.loop
       (.seq
        (.seq
         (.region false [⟨some 16, .mv (.tmp 3), none, []⟩,
           ⟨some 17, .fad 0 (.tmp 1), none, []⟩,
           ⟨some 18, .load1 (.tmp 17), none, []⟩,
           ⟨some 19, .len_ (.tmp 18), none, []⟩,
           ⟨some 20, .bin .lss (.tmp 16) (.tmp 19), none, []⟩] [16, 17, 18, 19])
        (.cond (.tmp 20)
          .skip
          (.exit 0)))
       (.seq
        (.block 1
          (.seq
           (.region false [⟨some 23, .fad 0 (.tmp 1), none, []⟩,
             ⟨some 24, .load1 (.tmp 23), none, []⟩,
             ⟨some 25, .mv (.tmp 3), none, []⟩,
             ⟨some 26, .iadS 1 (.tmp 24) (.tmp 25), none, []⟩,
             ⟨some 27, .load1 (.tmp 26), none, []⟩,
             ⟨some 28, .call (.func 129) [(.tmp 27), (.const (.int .i64 (-100))), (.const (.int .i64 100))], none, []⟩,
             ⟨some 29, .un .not (.tmp 28), none, []⟩] [23, 24, 25, 26, 27, 28])
          (.cond (.tmp 29)
            (.seq
             (.region false [⟨some 2, .mv (.const (.int .i64 80)), none, []⟩] [])
            .ret)
            .skip)))
       (.region false [⟨some 21, .mv (.tmp 3), none, []⟩,
         ⟨some 22, .bin .add (.tmp 21) (.const (.int .i64 1)), none, []⟩,
         ⟨some 3, .mv (.tmp 22), none, []⟩] [21, 22]))))))
  (.seq
   (.seq
    (.region false [⟨some 4, .mv (.const (.int .i64 0)), none, []⟩] [])
   (.block 2
     (.loop
       (.seq
        (.seq
         (.region false [⟨some 30, .mv (.tmp 4), none, []⟩,
           ⟨some 31, .fad 1 (.tmp 1), none, []⟩,
           ⟨some 32, .load1 (.tmp 31), none, []⟩,
           ⟨some 33, .len_ (.tmp 32), none, []⟩,
           ⟨some 34, .bin .lss (.tmp 30) (.tmp 33), none, []⟩] [30, 31, 32, 33])
        (.cond (.tmp 34)
          .skip
          (.exit 2)))
       (.seq
        (.block 3
          (.seq
           (.region true [⟨some 37, .fad 1 (.tmp 1), none, []⟩,
             ⟨some 38, .load1 (.tmp 37), none, [0]⟩,
             ⟨some 39, .mv (.tmp 4), none, []⟩,
             ⟨some 40, .iadS 1 (.tmp 38) (.tmp 39), none, [1, 0, 2]⟩,
             ⟨some 41, .load1 (.tmp 40), none, [3, 1, 0, 2]⟩,
             ⟨some 42, .fad 0 (.tmp 1), none, []⟩,
             ⟨some 43, .load1 (.tmp 42), none, [5]⟩,
             ⟨some 44, .len_ (.tmp 43), none, [6, 5]⟩,
             ⟨some 45, .bin .sub (.tmp 44) (.const (.int .i64 1)), none, [7, 6, 5]⟩,
             ⟨some 46, .call (.func 129) [(.tmp 41), (.const (.int .i64 0)), (.tmp 45)], none, [4, 3, 1, 0, 2, 8, 7, 6, 5]⟩,
             ⟨some 47, .un .not (.tmp 46), none, [9, 4, 3, 1, 0, 2, 8, 7, 6, 5]⟩,
             ⟨some 48, .mv (.tmp 47), none, [10, 9, 4, 3, 1, 0, 2, 8, 7, 6, 5]⟩,
             ⟨some 49, .mv (.tmp 4), (some (some 48, false)), [11, 10, 9, 4, 3, 1, 0, 2, 8, 7, 6, 5]⟩,
             ⟨some 50, .bin .gtr (.tmp 49) (.const (.int .i64 0)), (some (some 48, false)), [12, 11, 10, 9, 4, 3, 1, 0, 2, 8, 7, 6, 5]⟩,
             ⟨some 51, .mv (.tmp 50), (some (some 48, false)), [13, 12, 11, 10, 9, 4, 3, 1, 0, 2, 8, 7, 6, 5]⟩,
             ⟨some 52, .fad 1 (.tmp 1), (some (some 51, true)), [14, 13, 12, 11, 10, 9, 4, 3, 1, 0, 2, 8, 7, 6, 5]⟩,
             ⟨some 53, .load1 (.tmp 52), (some (some 51, true)), [15, 14, 13, 12, 11, 10, 9, 4, 3, 1, 0, 2, 8, 7, 6, 5]⟩,
             ⟨some 54, .mv (.tmp 4), (some (some 51, true)), [14, 13, 12, 11, 10, 9, 4, 3, 1, 0, 2, 8, 7, 6, 5]⟩,
             ⟨some 55, .iadS 1 (.tmp 53) (.tmp 54), (some (some 51, true)), [16, 15, 14, 13, 12, 11, 10, 9, 4, 3, 1, 0, 2, 8, 7, 6, 5, 17]⟩,
             ⟨some 56, .load1 (.tmp 55), (some (some 51, true)), [18, 16, 15, 14, 13, 12, 11, 10, 9, 4, 3, 1, 0, 2, 8, 7, 6, 5, 17]⟩,
             ⟨some 57, .fad 1 (.tmp 1), (some (some 51, true)), [14, 13, 12, 11, 10, 9, 4, 3, 1, 0, 2, 8, 7, 6, 5]⟩,
             ⟨some 58, .load1 (.tmp 57), (some (some 51, true)), [20, 14, 13, 12, 11, 10, 9, 4, 3, 1, 0, 2, 8, 7, 6, 5]⟩,
             ⟨some 59, .mv (.tmp 4), (some (some 51, true)), [14, 13, 12, 11, 10, 9, 4, 3, 1, 0, 2, 8, 7, 6, 5]⟩,
             ⟨some 60, .bin .sub (.tmp 59) (.const (.int .i64 1)), (some (some 51, true)), [22, 14, 13, 12, 11, 10, 9, 4, 3, 1, 0, 2, 8, 7, 6, 5]⟩,
             ⟨some 61, .iadS 1 (.tmp 58) (.tmp 60), (some (some 51, true)), [21, 20, 14, 13, 12, 11, 10, 9, 4, 3, 1, 0, 2, 8, 7, 6, 5, 23, 22]⟩,
             ⟨some 62, .load1 (.tmp 61), (some (some 51, true)), [24, 21, 20, 14, 13, 12, 11, 10, 9, 4, 3, 1, 0, 2, 8, 7, 6, 5, 23, 22]⟩,
             ⟨some 63, .bin .leq (.tmp 56) (.tmp 62), (some (some 51, true)), [19, 18, 16, 15, 14, 13, 12, 11, 10, 9, 4, 3, 1, 0, 2, 8, 7, 6, 5, 17, 25, 24, 21, 20, 23, 22]⟩,
             ⟨some 64, .pick (.tmp 51) (.tmp 63) (.const (.bool false)), (some (some 48, false)), [14, 13, 12, 11, 10, 9, 4, 3, 1, 0, 2, 8, 7, 6, 5, 26, 19, 18, 16, 15, 17, 25, 24, 21, 20, 23, 22]⟩,
             ⟨some 65, .pick (.tmp 48) (.const (.bool true)) (.tmp 64), none, [11, 10, 9, 4, 3, 1, 0, 2, 8, 7, 6, 5, 27, 14, 13, 12, 26, 19, 18, 16, 15, 17, 25, 24, 21, 20, 23, 22]⟩] [37, 38, 39, 40, 41, 42, 43, 44, 45, 46, 47, 48, 49, 50, 51, 52, 53, 54, 55, 56, 57, 58, 59, 60, 61, 62, 63, 64])
          (.cond (.tmp 65)
            (.seq
             (.region false [⟨some 2, .mv (.const (.int .i64 80)), none, []⟩] [])
            .ret)
            .skip)))
       (.region false [⟨some 35, .mv (.tmp 4), none, []⟩,
         ⟨some 36, .bin .add (.tmp 35) (.const (.int .i64 1)), none, []⟩,
         ⟨some 4, .mv (.tmp 36), none, []⟩] [35, 36]))))))
  (.seq
   (.region false [⟨some 2, .mv (.const (.int .i64 0)), none, []⟩] [])
  .ret)))))
set_option maxRecDepth 100000 in
theorem kref08_Check : IsCode Try.prog 128 66 cref08_Check [.tmp 2] :=
  ⟨Try.f128, _, [65, 34, 29, 20, 15, 0, 1, 3, 4, 2], Try.func128, rfl, by decide, rfl, by kernel_rfl, by kernel_rfl⟩
/-- ref08_value -/
def cref08_value : ACode :=
  (.seq
   (.region false [⟨some 4, .box (.tmp 0), none, []⟩,
     ⟨some 8, .mv (.const (.int .i64 0)), none, []⟩] [])
  (.seq
   (.region true [⟨some 13, .fad 1 (.tmp 4), none, []⟩,
     ⟨some 14, .load1 (.tmp 13), none, [0]⟩,
     ⟨some 15, .mv (.tmp 1), none, []⟩,
     ⟨some 16, .iadS 1 (.tmp 14) (.tmp 15), none, [1, 0, 2]⟩,
     ⟨some 17, .load1 (.tmp 16), none, [3, 1, 0, 2]⟩,
     ⟨some 18, .fad 1 (.tmp 4), none, []⟩,
     ⟨some 19, .load1 (.tmp 18), none, [5]⟩,
     ⟨some 20, .mv (.tmp 1), none, []⟩,
     ⟨some 21, .bin .add (.tmp 20) (.const (.int .i64 1)), none, [7]⟩,
     ⟨some 22, .iadS 1 (.tmp 19) (.tmp 21), none, [6, 5, 8, 7]⟩,
     ⟨some 23, .load1 (.tmp 22), none, [9, 6, 5, 8, 7]⟩,
     ⟨some 9, .mv (.tmp 17), none, [4, 3, 1, 0, 2]⟩,
     ⟨some 10, .mv (.tmp 23), none, [10, 9, 6, 5, 8, 7, 11, 4, 3, 1, 0, 2]⟩] [13, 14, 15, 16, 17, 18, 19, 20, 21, 22, 23])
  (.seq
   (.region true [⟨some 24, .mv (.tmp 2), none, []⟩,
     ⟨some 25, .mv (.tmp 10), none, []⟩,
     ⟨some 26, .mv (.tmp 9), none, []⟩,
     ⟨some 27, .bin .sub (.tmp 25) (.tmp 26), none, [1, 2]⟩,
     ⟨some 28, .bin .mul (.tmp 24) (.tmp 27), none, [0, 3, 1, 2]⟩,
     ⟨some 29, .mv (.tmp 3), none, []⟩,
     ⟨some 30, .bin .quo (.tmp 28) (.tmp 29), none, [4, 0, 3, 1, 2, 5]⟩,
     ⟨some 31, .mv (.tmp 2), none, []⟩,
     ⟨some 32, .mv (.tmp 10), none, []⟩,
     ⟨some 33, .mv (.tmp 9), none, []⟩,
     ⟨some 34, .bin .sub (.tmp 32) (.tmp 33), none, [8, 9]⟩,
     ⟨some 35, .bin .mul (.tmp 31) (.tmp 34), none, [7, 10, 8, 9]⟩,
     ⟨some 36, .mv (.tmp 3), none, []⟩,
     ⟨some 37, .bin .rem (.tmp 35) (.tmp 36), none, [11, 7, 10, 8, 9, 12]⟩,
     ⟨some 11, .mv (.tmp 30), none, [6, 4, 0, 3, 1, 2, 5]⟩,
     ⟨some 12, .mv (.tmp 37), none, [13, 11, 7, 10, 8, 9, 12, 14, 6, 4, 0, 3, 1, 2, 5]⟩] [24, 25, 26, 27, 28, 29, 30, 31, 32, 33, 34, 35, 36, 37])
  (.seq
   (.seq
    (.region false [⟨some 38, .mv (.tmp 12), none, []⟩,
      ⟨some 39, .bin .eql (.tmp 38) (.const (.int .i64 0)), none, []⟩] [38])
   (.cond (.tmp 39)
     (.seq
      (.region false [⟨some 40, .mv (.tmp 3), none, []⟩,
        ⟨some 41, .fad 0 (.tmp 4), none, []⟩,
        ⟨some 42, .load1 (.tmp 41), none, []⟩,
        ⟨some 43, .mv (.tmp 9), none, []⟩,
        ⟨some 44, .mv (.tmp 11), none, []⟩,
        ⟨some 45, .bin .add (.tmp 43) (.tmp 44), none, []⟩,
        ⟨some 46, .iadS 1 (.tmp 42) (.tmp 45), none, []⟩,
        ⟨some 47, .load1 (.tmp 46), none, []⟩,
        ⟨some 48, .bin .mul (.tmp 40) (.tmp 47), none, []⟩,
        ⟨some 8, .mv (.tmp 48), none, []⟩] [40, 41, 42, 43, 44, 45, 46, 47, 48])
     .ret)
     .skip))
  (.seq
   (.region true [⟨some 49, .mv (.tmp 3), none, []⟩,
     ⟨some 50, .mv (.tmp 12), none, []⟩,
     ⟨some 51, .bin .sub (.tmp 49) (.tmp 50), none, [0, 1]⟩,
     ⟨some 52, .fad 0 (.tmp 4), none, []⟩,
     ⟨some 53, .load1 (.tmp 52), none, [3]⟩,
     ⟨some 54, .mv (.tmp 9), none, []⟩,
     ⟨some 55, .mv (.tmp 11), none, []⟩,
     ⟨some 56, .bin .add (.tmp 54) (.tmp 55), none, [5, 6]⟩,
     ⟨some 57, .iadS 1 (.tmp 53) (.tmp 56), none, [4, 3, 7, 5, 6]⟩,
     ⟨some 58, .load1 (.tmp 57), none, [8, 4, 3, 7, 5, 6]⟩,
     ⟨some 59, .bin .mul (.tmp 51) (.tmp 58), none, [2, 0, 1, 9, 8, 4, 3, 7, 5, 6]⟩,
     ⟨some 60, .mv (.tmp 12), none, []⟩,
     ⟨some 61, .fad 0 (.tmp 4), none, []⟩,
     ⟨some 62, .load1 (.tmp 61), none, [12]⟩,
     ⟨some 63, .mv (.tmp 9), none, []⟩,
     ⟨some 64, .mv (.tmp 11), none, []⟩,
     ⟨some 65, .bin .add (.tmp 63) (.tmp 64), none, [14, 15]⟩,
     ⟨some 66, .bin .add (.tmp 65) (.const (.int .i64 1)), none, [16, 14, 15]⟩,
     ⟨some 67, .iadS 1 (.tmp 62) (.tmp 66), none, [13, 12, 17, 16, 14, 15]⟩,
     ⟨some 68, .load1 (.tmp 67), none, [18, 13, 12, 17, 16, 14, 15]⟩,
     ⟨some 69, .bin .mul (.tmp 60) (.tmp 68), none, [11, 19, 18, 13, 12, 17, 16, 14, 15]⟩,
     ⟨some 70, .bin .add (.tmp 59) (.tmp 69), none, [10, 2, 0, 1, 9, 8, 4, 3, 7, 5, 6, 20, 11, 19, 18, 13, 12, 17, 16, 14, 15]⟩,
     ⟨some 8, .mv (.tmp 70), none, [21, 10, 2, 0, 1, 9, 8, 4, 3, 7, 5, 6, 20, 11, 19, 18, 13, 12, 17, 16, 14, 15]⟩] [49, 50, 51, 52, 53, 54, 55, 56, 57, 58, 59, 60, 61, 62, 63, 64, 65, 66, 67, 68, 69, 70])
  .ret)))))
set_option maxRecDepth 100000 in
theorem kref08_value : IsCode Try.prog 130 71 cref08_value [.tmp 8] :=
  ⟨Try.f130, _, [39, 0, 4, 1, 2, 10, 9, 3, 12, 11, 8], Try.func130, rfl, by decide, rfl, by kernel_rfl, by kernel_rfl⟩
/-- ref08_within -/
def cref08_within : ACode :=
  (.seq
   (.region false [⟨some 6, .mv (.const (.bool false)), none, []⟩] [])
  (.seq
   (.region false [⟨some 7, .mv (.tmp 0), none, []⟩,
     ⟨some 8, .mv (.tmp 1), none, []⟩,
     ⟨some 9, .bin .geq (.tmp 7) (.tmp 8), none, []⟩,
     ⟨some 10, .mv (.tmp 9), none, []⟩,
     ⟨some 11, .mv (.tmp 0), (some (some 10, true)), []⟩,
     ⟨some 12, .mv (.tmp 2), (some (some 10, true)), []⟩,
     ⟨some 13, .bin .leq (.tmp 11) (.tmp 12), (some (some 10, true)), []⟩,
     ⟨some 14, .pick (.tmp 10) (.tmp 13) (.const (.bool false)), none, []⟩,
     ⟨some 6, .mv (.tmp 14), none, []⟩] [7, 8, 9, 10, 11, 12, 13, 14])
  .ret))
set_option maxRecDepth 100000 in
theorem kref08_within : IsCode Try.prog 129 15 cref08_within [.tmp 6] :=
  ⟨Try.f129, _, [0, 1, 2, 6], Try.func129, rfl, by decide, rfl, by kernel_rfl, by kernel_rfl⟩
end Go.Proofs.Ytdcodicoclecnaa
