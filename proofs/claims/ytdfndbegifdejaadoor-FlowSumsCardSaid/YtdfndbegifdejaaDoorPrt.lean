/- Merged: PrnLays, PrnP. -/
import Derived.Test.YtdfndbegifdejaaDoorChecked
import Derived.Shelf.Strings.Builder1
import Derived.Shelf.Strconv.Itoa3
import Derived.Test.YtdfndbegifdejaaDoorGDx5
import Derived.Lib.ItoaLen
import Derived.Lib.AppendIntMem
/-! ### PrnLays -/
/- strings.Builder and strconv.Itoa: the shelf's contracts laid at this program. -/
namespace Go.Proofs.YtdfndbegifdejaaDoor.GD
open Go.Proofs Go.Shelf Go.RowKit
def bWriteRen : Ren where
  f := fun x => if x = 166 then 26 else if x = 240 then 46 else if x = 276 then 60 else x
  t := fun x => if x = 70 then 51 else if x = 72 then 54 else if x = 37 then 52 else if x = 75 then 56 else if x = 80 then 61 else if x = 164 then 103 else if x = 76 then 57 else x
  g := fun x => x

set_option maxRecDepth 100000 in
theorem bWrite : Lays.n166 Tryd.prog bWriteRen where
  mixed := by kernel_rfl
  f166 := Tryd.func26.trans (congrArg some (by kernel_rfl))
  f240 := Tryd.func46.trans (congrArg some (by kernel_rfl))
  f276 := Tryd.func60.trans (congrArg some (by kernel_rfl))
  t0 := Tryd.underlying0
  a0 := Tryd.isAgg0
  z0 := Tryd.sizeOf0
  v0 := Tryd.zeroValue0
  t3 := Tryd.underlying3
  a3 := Tryd.isAgg3
  z3 := Tryd.sizeOf3
  v3 := Tryd.zeroValue3
  t4 := Tryd.underlying4
  a4 := Tryd.isAgg4
  z4 := Tryd.sizeOf4
  v4 := Tryd.zeroValue4
  t9 := Tryd.underlying9
  a9 := Tryd.isAgg9
  z9 := Tryd.sizeOf9
  v9 := Tryd.zeroValue9
  t20 := Tryd.underlying20
  a20 := Tryd.isAgg20
  z20 := Tryd.sizeOf20
  v20 := Tryd.zeroValue20
  t37 := Tryd.underlying52
  a37 := Tryd.isAgg52
  z37 := Tryd.sizeOf52
  v37 := Tryd.zeroValue52
  t70 := Tryd.underlying51
  a70 := Tryd.isAgg51
  z70 := Tryd.sizeOf51
  v70 := Tryd.zeroValue51
  t72 := Tryd.underlying54
  a72 := Tryd.isAgg54
  z72 := Tryd.sizeOf54
  v72 := Tryd.zeroValue54
  t75 := Tryd.underlying56
  a75 := Tryd.isAgg56
  z75 := Tryd.sizeOf56
  v75 := Tryd.zeroValue56
  t164 := Tryd.underlying103
  a164 := Tryd.isAgg103
  z164 := Tryd.sizeOf103
  v164 := Tryd.zeroValue103

def bLenRen : Ren where
  f := fun x => if x = 170 then 28 else x
  t := fun x => if x = 70 then 51 else if x = 72 then 54 else if x = 37 then 52 else x
  g := fun x => x

set_option maxRecDepth 100000 in
theorem bLen : Lays.n170 Tryd.prog bLenRen where
  mixed := by kernel_rfl
  f170 := Tryd.func28.trans (congrArg some (by kernel_rfl))
  t0 := Tryd.underlying0
  a0 := Tryd.isAgg0
  z0 := Tryd.sizeOf0
  v0 := Tryd.zeroValue0
  t3 := Tryd.underlying3
  a3 := Tryd.isAgg3
  z3 := Tryd.sizeOf3
  v3 := Tryd.zeroValue3
  t37 := Tryd.underlying52
  a37 := Tryd.isAgg52
  z37 := Tryd.sizeOf52
  v37 := Tryd.zeroValue52
  t70 := Tryd.underlying51
  a70 := Tryd.isAgg51
  z70 := Tryd.sizeOf51
  v70 := Tryd.zeroValue51
  t72 := Tryd.underlying54
  a72 := Tryd.isAgg54
  z72 := Tryd.sizeOf54
  v72 := Tryd.zeroValue54

def bStringRen : Ren where
  f := fun x => if x = 169 then 29 else x
  t := fun x => if x = 70 then 51 else if x = 72 then 54 else if x = 37 then 52 else if x = 127 then 83 else x
  g := fun x => x

set_option maxRecDepth 100000 in
theorem bString : Lays.n169 Tryd.prog bStringRen where
  mixed := by kernel_rfl
  f169 := Tryd.func29.trans (congrArg some (by kernel_rfl))
  t0 := Tryd.underlying0
  a0 := Tryd.isAgg0
  z0 := Tryd.sizeOf0
  v0 := Tryd.zeroValue0
  t3 := Tryd.underlying3
  a3 := Tryd.isAgg3
  z3 := Tryd.sizeOf3
  v3 := Tryd.zeroValue3
  t9 := Tryd.underlying9
  a9 := Tryd.isAgg9
  z9 := Tryd.sizeOf9
  v9 := Tryd.zeroValue9
  t37 := Tryd.underlying52
  a37 := Tryd.isAgg52
  z37 := Tryd.sizeOf52
  v37 := Tryd.zeroValue52
  t70 := Tryd.underlying51
  a70 := Tryd.isAgg51
  z70 := Tryd.sizeOf51
  v70 := Tryd.zeroValue51
  t72 := Tryd.underlying54
  a72 := Tryd.isAgg54
  z72 := Tryd.sizeOf54
  v72 := Tryd.zeroValue54
  t127 := Tryd.underlying83
  a127 := Tryd.isAgg83
  z127 := Tryd.sizeOf83
  v127 := Tryd.zeroValue83

def itoaLRen : Ren where
  f := fun x => if x = 171 then 27 else if x = 243 then 47 else if x = 246 then 61 else if x = 283 then 69 else if x = 284 then 70 else if x = 285 then 71 else if x = 286 then 72 else if x = 129 then 82 else if x = 317 then 92 else if x = 318 then 93 else if x = 319 then 94 else if x = 320 then 95 else if x = 337 then 105 else if x = 338 then 106 else x
  t := fun x => if x = 171 then 113 else if x = 53 then 84 else if x = 37 then 52 else if x = 173 then 116 else if x = 212 then 134 else if x = 51 then 126 else if x = 213 then 135 else if x = 46 then 108 else if x = 232 then 148 else if x = 233 then 149 else x
  g := fun x => if x = 17 then 1 else if x = 18 then 2 else if x = 19 then 3 else x

set_option maxRecDepth 100000 in
theorem itoaL : LaysM.n171 Tryd.prog itoaLRen where
  mixed := by kernel_rfl
  f129 := Tryd.func82.trans (congrArg some (by kernel_rfl))
  f171 := Tryd.func27.trans (congrArg some (by kernel_rfl))
  f243 := Tryd.func47.trans (congrArg some (by kernel_rfl))
  f246 := Tryd.func61.trans (congrArg some (by kernel_rfl))
  f283 := Tryd.func69.trans (congrArg some (by kernel_rfl))
  f284 := Tryd.func70.trans (congrArg some (by kernel_rfl))
  f285 := Tryd.func71.trans (congrArg some (by kernel_rfl))
  f286 := Tryd.func72.trans (congrArg some (by kernel_rfl))
  f317 := Tryd.func92.trans (congrArg some (by kernel_rfl))
  f318 := Tryd.func93.trans (congrArg some (by kernel_rfl))
  f319 := Tryd.func94.trans (congrArg some (by kernel_rfl))
  f320 := Tryd.func95.trans (congrArg some (by kernel_rfl))
  f337 := Tryd.func105.trans (congrArg some (by kernel_rfl))
  f338 := Tryd.func106.trans (congrArg some (by kernel_rfl))
  t0 := Tryd.underlying0
  a0 := Tryd.isAgg0
  z0 := Tryd.sizeOf0
  v0 := Tryd.zeroValue0
  t2 := Tryd.underlying2
  a2 := Tryd.isAgg2
  z2 := Tryd.sizeOf2
  v2 := Tryd.zeroValue2
  t3 := Tryd.underlying3
  a3 := Tryd.isAgg3
  z3 := Tryd.sizeOf3
  v3 := Tryd.zeroValue3
  t4 := Tryd.underlying4
  a4 := Tryd.isAgg4
  z4 := Tryd.sizeOf4
  v4 := Tryd.zeroValue4
  t5 := Tryd.underlying5
  a5 := Tryd.isAgg5
  z5 := Tryd.sizeOf5
  v5 := Tryd.zeroValue5
  t9 := Tryd.underlying9
  a9 := Tryd.isAgg9
  z9 := Tryd.sizeOf9
  v9 := Tryd.zeroValue9
  t20 := Tryd.underlying20
  a20 := Tryd.isAgg20
  z20 := Tryd.sizeOf20
  v20 := Tryd.zeroValue20
  t37 := Tryd.underlying52
  a37 := Tryd.isAgg52
  z37 := Tryd.sizeOf52
  v37 := Tryd.zeroValue52
  t46 := Tryd.underlying108
  a46 := Tryd.isAgg108
  z46 := Tryd.sizeOf108
  v46 := Tryd.zeroValue108
  t51 := Tryd.underlying126
  a51 := Tryd.isAgg126
  z51 := Tryd.sizeOf126
  v51 := Tryd.zeroValue126
  t53 := Tryd.underlying84
  a53 := Tryd.isAgg84
  z53 := Tryd.sizeOf84
  v53 := Tryd.zeroValue84
  t171 := Tryd.underlying113
  a171 := Tryd.isAgg113
  z171 := Tryd.sizeOf113
  v171 := Tryd.zeroValue113
  t173 := Tryd.underlying116
  a173 := Tryd.isAgg116
  z173 := Tryd.sizeOf116
  v173 := Tryd.zeroValue116
  t212 := Tryd.underlying134
  a212 := Tryd.isAgg134
  z212 := Tryd.sizeOf134
  v212 := Tryd.zeroValue134
  t213 := Tryd.underlying135
  a213 := Tryd.isAgg135
  z213 := Tryd.sizeOf135
  t232 := Tryd.underlying148
  a232 := Tryd.isAgg148
  z232 := Tryd.sizeOf148
  v232 := Tryd.zeroValue148
  t233 := Tryd.underlying149
  a233 := Tryd.isAgg149
  z233 := Tryd.sizeOf149
  v233 := Tryd.zeroValue149
  g17 := by kernel_rfl
  g18 := by kernel_rfl
  g19 := by kernel_rfl
  i0 := by kernel_rfl
  i2 := by kernel_rfl
  i3 := by kernel_rfl
  i4 := by kernel_rfl
  i5 := by kernel_rfl
  i9 := by kernel_rfl
  i20 := by kernel_rfl
  i37 := by kernel_rfl
  i46 := by kernel_rfl
  i51 := by kernel_rfl
  i53 := by kernel_rfl
  i171 := by kernel_rfl
  i173 := by kernel_rfl
  i212 := by kernel_rfl
  i232 := by kernel_rfl
  i233 := by kernel_rfl
  m17 := by kernel_rfl
  m18 := by kernel_rfl
  m19 := by kernel_rfl

theorem bWriteX : Builder.Extra Tryd.prog bWriteRen where
  sizeBuilder := by kernel_rfl
  liesBuilder := by kernel_rfl
  t5 := Tryd.underlying5
  a5 := Tryd.isAgg5
  z5 := Tryd.sizeOf5
  v5 := Tryd.zeroValue5
  infoByte := by kernel_rfl
  cellsByte := by kernel_rfl
  sizeByte := by kernel_rfl
  neB5 := by decide

theorem bStringX : Builder.Extra Tryd.prog bStringRen where
  sizeBuilder := by kernel_rfl
  liesBuilder := by kernel_rfl
  t5 := Tryd.underlying5
  a5 := Tryd.isAgg5
  z5 := Tryd.sizeOf5
  v5 := Tryd.zeroValue5
  infoByte := by kernel_rfl
  cellsByte := by kernel_rfl
  sizeByte := by kernel_rfl
  neB5 := by decide

theorem b_WriteString (B b : Nat) (bs : List Value) (s : ByteArray) (w : World) (h : Lib.IsBuilder 54 5 B b bs w) (hlen : bs.length + s.size ≤ 140737488355328) (hBw : B ≤ w.heap.size) :
    Calls Tryd.prog 26 #[.pointer (some ⟨b, 0, none⟩), .string s] w fun e w' => e = .returned (.tuple #[.int .i64 s.size, .nilIface]) ∧ (Lib.BuilderAt 54 5 B b (.pointer (some ⟨b, 0, none⟩)) (bs ++ Lib.strCells s) w' ∧ Below B w w') := Any.Builder_WriteString bWrite bWriteX B b bs s w h hlen hBw
theorem b_Len (B b : Nat) (bs : List Value) (w : World) (h : Lib.IsBuilder 54 5 B b bs w) :
    Calls Tryd.prog 28 #[.pointer (some ⟨b, 0, none⟩)] w fun e w' => e = .returned (.int .i64 bs.length) ∧ w' = w := Any.Builder_Len bLen B b bs w h
theorem b_String (B b : Nat) (l : List UInt8) (w : World) (h : Lib.IsBuilder 54 5 B b (Lib.byteCells l) w) (hBw : B ≤ w.heap.size) :
    Calls Tryd.prog 29 #[.pointer (some ⟨b, 0, none⟩)] w fun e w' => e = .returned (.string ⟨l.toArray⟩) ∧ Below B w w' := Any.Builder_String_any bString bStringX B b l w h hBw
def ItoaTab (w : World) : Prop := Lib.TabIs Tryd.prog w "internal/strconv.uint64pow10" .u64 Lib.pow10Tab
theorem itoa_grow (n : Int) (h0 : -9223372036854775808 ≤ n) (h1 : n ≤ 9223372036854775807) (w : World) (htab : ItoaTab w) :
    Calls Tryd.prog 27 #[.int .i64 n] w fun e w' => e = .returned (.string ⟨(Lib.itoa n).toArray⟩) ∧ ∃ k os, w' = Go.Sort.grow (w.drewN k) os := Any.strconv_Itoa itoaL n h0 h1 w htab
end Go.Proofs.YtdfndbegifdejaaDoor.GD

/-! ### PrnP -/
/- flow.Print: its contract: what is printed, told plainly; over the shelf's Builder and Itoa. -/
namespace Go.Proofs.YtdfndbegifdejaaDoor.GD
set_option linter.unusedVariables false
set_option linter.unusedSimpArgs false
open Go.RowKit Go.Proofs.YtdfndbegifdejaaDoorW.PrintWords Go.Proofs.YtdfndbegifdejaaDoorW.PrintLast Go.Proofs.YtdfndbegifdejaaDoorW.PrintMore Go.Sort

theorem tab_below {w w' : World} (h : ItoaTab w) (hb : Below w.heap.size w w') : ItoaTab w' := Lib.tabBelow_of_tabIs h _ hb
theorem isB_below {B b : Nat} {bs : List Value} {w w' : World} (h : Lib.IsBuilder 54 5 B b bs w) (hb : Below w.heap.size w w') : Lib.IsBuilder 54 5 B b bs w' := by
  have key : ∀ p, Lib.BuilderAt 54 5 B b p bs w → Lib.BuilderAt 54 5 B b p bs w' := by
    rintro p ⟨hB, v, hbk, hown, hne⟩
    exact ⟨hB, v, blk_below hbk hb, pw_own_below hown hb, hne⟩
  rcases h with h | h
  · exact .inl (key _ h)
  · exact .inr (key _ h)
theorem isB_after {B b g : Nat} {bs : List Value} {w w' : World} (h : Lib.IsBuilder 54 5 B b bs w) (hg : g = w.heap.size) (hb : Below g w w') : Lib.IsBuilder 54 5 B b bs w' := isB_below h (hg ▸ hb)
theorem itoa_calls (n : Int) (h0 : -9223372036854775808 ≤ n) (h1 : n ≤ 9223372036854775807) (w : World) (htab : ItoaTab w) (s : ByteArray) (hs : s = ⟨(Lib.itoa n).toArray⟩) :
    Calls Tryd.prog 27 #[.int .i64 n] w fun e w' => e = .returned (.string s) ∧ Below w.heap.size w w' := by
  subst hs
  exact (itoa_grow n h0 h1 w htab).mono fun e w' ⟨he, k, os, hw⟩ => ⟨he, by rw [hw]; exact Lib.below_grow _ w (Nat.le_refl _) k os⟩

/-- Three capital letters. -/
def cap3 (s : ByteArray) : Bool := decide (s.size = 3) && decide (65 ≤ bt s 0) && decide (bt s 0 ≤ 90) && decide (65 ≤ bt s 1) && decide (bt s 1 ≤ 90) && decide (65 ≤ bt s 2) && decide (bt s 2 ≤ 90)
def vld (x : S32) : Int := if cap3 x.f1 = true then (if x.f0 < 0 then 2 else if x.f0 > 1073741824 then 2 else 0) else 1
theorem currency_f (s : ByteArray) : flow_currency.f 9 s = some (cap3 s) := by
  unfold flow_currency.f cap3
  by_cases h : s.size = 3
  · have h0 := bt_range s 0
    have h1 := bt_range s 1
    have h2 := bt_range s 2
    rw [if_pos (by omega), h]
    simp only [flow_currency.l0, h, wrap64]
    by_cases a0 : bt s 0 < 65
    · simp [a0, show ¬ (65 ≤ bt s 0) by omega]
    · by_cases a1 : bt s 0 > 90
      · simp [a0, a1, show ¬ (bt s 0 ≤ 90) by omega]
      · by_cases b0 : bt s 1 < 65
        · simp [a0, a1, b0, show ¬ (65 ≤ bt s 1) by omega]
        · by_cases b1 : bt s 1 > 90
          · simp [a0, a1, b0, b1, show ¬ (bt s 1 ≤ 90) by omega]
          · by_cases d0 : bt s 2 < 65
            · simp [a0, a1, b0, b1, d0, show ¬ (65 ≤ bt s 2) by omega]
            · by_cases d1 : bt s 2 > 90
              · simp [a0, a1, b0, b1, d0, d1, show ¬ (bt s 2 ≤ 90) by omega]
              · simp [a0, a1, b0, b1, d0, d1, show 65 ≤ bt s 0 by omega, show bt s 0 ≤ 90 by omega, show 65 ≤ bt s 1 by omega, show bt s 1 ≤ 90 by omega, show 65 ≤ bt s 2 by omega, show bt s 2 ≤ 90 by omega]
  · rw [if_neg (by omega)]
    simp [h]
theorem valid_f (x : S32) : flow_Valid.f 9 x.f0 x.f1 x.f2 = some (vld x) := by
  unfold flow_Valid.f vld
  rw [currency_f]
  simp only [Option.bind_some]
  split
  · split
    · rfl
    · split <;> rfl
  · rfl
theorem vld_size {x : S32} (h : vld x = 0) : x.f1.size = 3 := by
  unfold vld cap3 at h
  by_cases h3 : x.f1.size = 3
  · exact h3
  · simp [h3] at h

/-- A line: its bytes. -/
def lineL (x : S32) : List UInt8 := Lib.itoa x.f0 ++ [32] ++ x.f1.data.toList ++ [32] ++ Lib.itoa x.f2 ++ [10]
def firstBad : List S32 → Int
  | [] => 0
  | x :: r => if vld x = 0 then firstBad r else vld x
def prn (acc : List UInt8) : List S32 → Option (List UInt8)
  | [] => some acc
  | x :: r => if (acc ++ lineL x).length ≤ 1048576 then prn (acc ++ lineL x) r else none
def printP (l : List S32) : ByteArray × Int :=
  if firstBad l = 0 then (match prn [] l with
    | some b => (⟨b.toArray⟩, 0)
    | none => (⟨#[]⟩, 6)) else (⟨#[]⟩, firstBad l)
theorem b_Len2 (B b : Nat) (l : List UInt8) (w : World) (n : Nat) (hn : n = l.length) (h : Lib.IsBuilder 54 5 B b (Lib.byteCells l) w) :
    Calls Tryd.prog 28 #[.pointer (some ⟨b, 0, none⟩)] w fun e w' => e = .returned (.int .i64 (n : Int)) ∧ w = w' := by
  subst hn
  exact (b_Len B b _ w h).mono fun e w' ⟨he, hw⟩ => ⟨by rw [he, Lib.byteCells_length], hw.symm⟩
structure InI (n : Int) : Prop where
  lo : -9223372036854775808 ≤ n
  hi : n ≤ 9223372036854775807
def WfI (l : List S32) : Prop := ∀ x ∈ l, InI x.f0 ∧ InI x.f2
open Classical in
noncomputable def flow_Print.f (l : List S32) : Option (ByteArray × Int) := if WfI l ∧ l.length ≤ 140737488355327 then some (printP l) else none
theorem firstBad_drop (l : List S32) (i : Nat) (h : i < l.length) : firstBad (l.drop i) = if vld l[i] = 0 then firstBad (l.drop (i + 1)) else vld l[i] := by
  rw [List.drop_eq_getElem_cons h]; rfl
theorem prn_drop (acc : List UInt8) (l : List S32) (i : Nat) (h : i < l.length) : prn acc (l.drop i) = if (acc ++ lineL l[i]).length ≤ 1048576 then prn (acc ++ lineL l[i]) (l.drop (i + 1)) else none := by
  rw [List.drop_eq_getElem_cons h]; rfl
theorem firstBad_zero : ∀ (l : List S32), firstBad l = 0 → ∀ x ∈ l, vld x = 0
  | [], _, x, hx => by cases hx
  | y :: r, h, x, hx => by
    unfold firstBad at h
    by_cases hy : vld y = 0
    · rw [if_pos hy] at h
      rcases List.mem_cons.1 hx with rfl | hx
      · exact hy
      · exact firstBad_zero r h x hx
    · rw [if_neg hy] at h
      exact absurd h hy
theorem prn_rd (l : List S32) (i : Nat) (h : i < l.length) : rd_T32 l (i : Int) = l[i] := by
  unfold rd_T32
  simp [h]
theorem isB_line {B g : Nat} {acc : List UInt8} {x : S32} {sd sa : ByteArray} {w : World} (h : Lib.BuilderAt 54 5 B g (.pointer (some ⟨g, 0, none⟩)) (Lib.byteCells acc ++ Lib.strCells (sd ++ (⟨#[32]⟩ : ByteArray) ++ x.f1 ++ (⟨#[32]⟩ : ByteArray) ++ sa ++ (⟨#[10]⟩ : ByteArray))) w)
    (hd : sd = ⟨(Lib.itoa x.f0).toArray⟩) (ha : sa = ⟨(Lib.itoa x.f2).toArray⟩) : Lib.IsBuilder 54 5 B g (Lib.byteCells (acc ++ lineL x)) w := by
  have e : Lib.byteCells acc ++ Lib.strCells (sd ++ (⟨#[32]⟩ : ByteArray) ++ x.f1 ++ (⟨#[32]⟩ : ByteArray) ++ sa ++ (⟨#[10]⟩ : ByteArray)) = Lib.byteCells (acc ++ lineL x) := by
    rw [Lib.byteCells_append, Lib.strCells_eq]
    congr 2
    subst hd ha
    simp [lineL]
  rw [e] at h
  exact .inr h
theorem start_gen {P : Program} {Q : Exit → Act → World → Prop} {ops : Array Oper} {S : World → Prop} {ds : List Nat} {id n : Nat} {a : Act} {w : World} (R : World → Prop) (l : Array Bool) (hm : P.follows .mixedOrders = true) (hn : ops.size = n) (hl : Array.replicate n false = l)
    (hR : R w) (hd : ∀ w, R w → R w.drew) (hS : ∀ w, R w → S w) (h : ∀ w, R w → S w → wpAnyLast P .any ops Q S ds n l a w) : (Code.region id ops true).wp P Q a w :=
  start_ l hm hn hl (hS _ (hd _ hR)) (fun hs => h _ (hd _ hR) hs)
set_option maxHeartbeats 4000000 in
set_option maxRecDepth 100000 in
theorem flow_Print.calls (A0 : Option Addr) (c0 : Nat) (l0 : List (S32)) (r1 : ByteArray) (r2 : Int) (w : World) (HT0 : ItoaTab w) (hr0 : Kd.C k32 w A0 l0.length l0) (hc0 : l0.length ≤ c0) (h : flow_Print.f l0 = some (r1, r2)) :
    Calls Tryd.prog 10 #[.slice A0 l0.length c0] w fun e w' => e = .returned (.tuple #[.string r1, .int .i64 r2]) ∧ Below w.heap.size w w' := by
  have hu32 := Tryd.underlying32
  have HT := Aside0.mk HT0
  have HR0 := Aside0.mk hr0
  have HC0 := Aside0.mk hc0
  unfold flow_Print.f at h
  by_cases hwf : WfI l0 ∧ l0.length ≤ 140737488355327
  case neg => rw [if_neg hwf] at h; cases h
  rw [if_pos hwf] at h
  have HWF := Aside0.mk hwf.1
  have hn : l0.length ≤ 140737488355327 := hwf.2
  have HA := Aside0.mk (show printP l0 = (r1, r2) from Option.some.inj h)
  clear hr0 hc0 h hwf HT0
  have HB := Aside0.mk (Below.refl w.heap.size w)
  go_enter Tryd.func10, Tryd.ntmps10
  go_wp2
  go_loopg [12] l0.length (fun kq v12 w' => ∃ (i : Nat), v12 = .int .i64 (i : Int) ∧ i ≤ l0.length ∧ l0.length - i ≤ kq ∧ Aside0 (firstBad (l0.drop i) = firstBad l0) ∧ Aside0 (Below w.heap.size w w'))
  case atStart => exact ⟨0, rfl, Nat.zero_le _, by omega, ⟨rfl⟩, HB⟩
  case round =>
    clear HB
    obtain ⟨i, rfl, hi, hkq, HFB, HB⟩ := hrel
    by_cases hlt : i < l0.length
    · have p_ : (0 : Int) ≤ (i : Int) := by omega
      have q_ : (i : Int) < (l0.length : Int) := by omega
      obtain ⟨x, hx⟩ : ∃ x, x = l0[i] := ⟨_, rfl⟩
      obtain ⟨ad, e_, hx_0, hx_1, hx_2⟩ := at_T32 HR0.out (i : Int) p_ q_
      cases e_
      rw [prn_rd l0 i hlt] at hx_0 hx_1 hx_2
      simp only [Int.toNat_natCast] at hx_0 hx_1 hx_2
      replace hx_0 := (HB.out.cell (World.block_lt_of_cell? w _ hx_0)).trans hx_0
      replace hx_1 := (HB.out.cell (World.block_lt_of_cell? w _ hx_1)).trans hx_1
      replace hx_2 := (HB.out.cell (World.block_lt_of_cell? w _ hx_2)).trans hx_2
      rw [← hx] at hx_0 hx_1 hx_2
      have HX := Aside0.mk hx
      clear hx
      have hv := valid_f x
      have HV := Aside0.mk hv
      clear hv
      obtain ⟨t, ht⟩ : ∃ t, t = vld x := ⟨_, rfl⟩
      have HTV := Aside0.mk ht
      clear ht
      have hlti : decide ((i : Int) < (l0.length : Int)) = true := decide_eq_true q_
      have hltn : decide (i < l0.length) = true := decide_eq_true hlt
      by_cases hz : t = 0
      · have c5b0 : (t == 0) = true := beq_iff_eq.mpr hz
        have c5b1 : (t != 0) = false := bne_eq_false_iff_eq.mpr hz
        have HZ := Aside0.mk hz
        clear hz
        go_wp2_with (first | ((with_reducible refine gate_dst (N := 5) rfl ?_); refine box_event ?hg (N := 5) ?hd (cs := #[.int .i64 0, .string (⟨#[]⟩ : ByteArray), .int .i64 0]) (t := 32) ?hr ?_; (case hd => rfl); (case hg => rfl); (case hr => first | (go_simp; done) | (go_simp; rfl)); intro gb hg w8 hbox hb; have n1_ := Aside0.mk (below_step HB.out hb); have BK := Aside0.mk hbox; have GE := Aside0.mk (show w.heap.size ≤ gb by rw [hg]; exact HB.out.size); clear HB; have HB := n1_; clear n1_; clear hb hbox hg; have hcz_0 : w8.cell? ⟨gb, 0, none⟩ = some (.int .i64 0) := (blk_cell BK.out 0).trans rfl; have hcz_1 : w8.cell? ⟨gb, 1, none⟩ = some (.string (⟨#[]⟩ : ByteArray)) := (blk_cell BK.out 1).trans rfl; have hcz_2 : w8.cell? ⟨gb, 2, none⟩ = some (.int .i64 0) := (blk_cell BK.out 2).trans rfl; have hfz_0 := blk_frozen BK.out 0; have hfz_1 := blk_frozen BK.out 1; have hfz_2 := blk_frozen BK.out 2) | (go_at_call 25; (with_reducible refine (flow_Valid.calls 9 x.f0 x.f1 x.f2 t _ (HV.out.trans (congrArg some HTV.out.symm))).mono ?_); rintro e w9 ⟨rfl, hb⟩; have n1_ := Aside0.mk (below_step (below_set (below_set (below_set HB.out GE.out) GE.out) GE.out) hb); clear HB; have HB := n1_; clear n1_ hb))
        go_roundg (l0.length - (i + 1))
        case measure => omega
        case rel => exact ⟨i + 1, by go_num, by omega, by omega, ⟨by have h1 := firstBad_drop l0 i hlt; rw [← HX.out, ← HTV.out, if_pos HZ.out] at h1; exact h1.symm.trans HFB.out⟩, HB⟩
      · have c5b0 : (t == 0) = false := beq_eq_false_iff_ne.mpr hz
        have c5b1 : (t != 0) = true := bne_iff_ne.mpr hz
        have HZ := Aside0.mk hz
        clear hz
        go_wp2_with (first | ((with_reducible refine gate_dst (N := 5) rfl ?_); refine box_event ?hg (N := 5) ?hd (cs := #[.int .i64 0, .string (⟨#[]⟩ : ByteArray), .int .i64 0]) (t := 32) ?hr ?_; (case hd => rfl); (case hg => rfl); (case hr => first | (go_simp; done) | (go_simp; rfl)); intro gb hg w8 hbox hb; have n1_ := Aside0.mk (below_step HB.out hb); have BK := Aside0.mk hbox; have GE := Aside0.mk (show w.heap.size ≤ gb by rw [hg]; exact HB.out.size); clear HB; have HB := n1_; clear n1_; clear hb hbox hg; have hcz_0 : w8.cell? ⟨gb, 0, none⟩ = some (.int .i64 0) := (blk_cell BK.out 0).trans rfl; have hcz_1 : w8.cell? ⟨gb, 1, none⟩ = some (.string (⟨#[]⟩ : ByteArray)) := (blk_cell BK.out 1).trans rfl; have hcz_2 : w8.cell? ⟨gb, 2, none⟩ = some (.int .i64 0) := (blk_cell BK.out 2).trans rfl; have hfz_0 := blk_frozen BK.out 0; have hfz_1 := blk_frozen BK.out 1; have hfz_2 := blk_frozen BK.out 2) | (go_at_call 25; (with_reducible refine (flow_Valid.calls 9 x.f0 x.f1 x.f2 t _ (HV.out.trans (congrArg some HTV.out.symm))).mono ?_); rintro e w9 ⟨rfl, hb⟩; have n1_ := Aside0.mk (below_step (below_set (below_set (below_set HB.out GE.out) GE.out) GE.out) hb); clear HB; have HB := n1_; clear n1_ hb))
        have hr : (r1, r2) = ((⟨#[]⟩ : ByteArray), t) := by
          have h1 := firstBad_drop l0 i hlt
          rw [← HX.out, ← HTV.out, if_neg HZ.out] at h1
          have h2 := HA.out
          unfold printP at h2
          rw [if_neg (by rw [← HFB.out, h1]; exact HZ.out), ← HFB.out, h1] at h2
          exact h2.symm
        simp only [Prod.mk.injEq] at hr
        obtain ⟨rfl, rfl⟩ := hr
        go_ret2
        exact ⟨by first | rfl | (simp; done), HB.out⟩
    · have hlti : decide ((i : Int) < (l0.length : Int)) = false := decide_eq_false (by omega)
      have hltn : decide (i < l0.length) = false := decide_eq_false hlt
      have HZ := Aside0.mk (show firstBad l0 = 0 by rw [← HFB.out, List.drop_of_length_le (by omega)]; rfl)
      clear HFB
      go_wp2_with ((with_reducible refine gate_dst (N := 7) rfl ?_); refine box_event ?hg (N := 7) ?hd (cs := #[.pointer none, .slice none 0 0]) (t := 54) ?hr ?_; (case hd => rfl); (case hg => rfl); (case hr => first | (go_simp; done) | (go_simp; rfl)); intro g hg w8 hbox hb; have n1_ := Aside0.mk (below_step HB.out hb); have HI := Aside0.mk (show Lib.IsBuilder 54 5 w.heap.size g (Lib.byteCells []) w8 from .inl ⟨by rw [hg]; exact HB.out.size, .slice none 0 0, hbox, World.ownsRow_nil _ _ _ _, by simp [Value.ownBlock]⟩); clear HB; have HB := n1_; clear n1_ hb hbox hg)
      clear hlti hltn hi hkq hlt
      go_loopg [24] l0.length (fun kq v24 w' => ∃ (i : Nat) (acc : List UInt8), v24 = .int .i64 (i : Int) ∧ i ≤ l0.length ∧ l0.length - i ≤ kq ∧ acc.length ≤ 1048576 ∧ Aside0 (prn acc (l0.drop i) = prn [] l0) ∧ Aside0 (Lib.IsBuilder 54 5 w.heap.size g (Lib.byteCells acc) w') ∧ Aside0 (Below w.heap.size w w'))
      case atStart => exact ⟨0, [], rfl, Nat.zero_le _, by omega, by simp, ⟨rfl⟩, HI, HB⟩
      case round =>
        clear HB HI
        obtain ⟨i, acc, rfl, hi, hkq, hacc, HP, HI, HB⟩ := hrel
        by_cases hlt : i < l0.length
        · have p_ : (0 : Int) ≤ (i : Int) := by omega
          have q_ : (i : Int) < (l0.length : Int) := by omega
          obtain ⟨x, hx⟩ : ∃ x, x = l0[i] := ⟨_, rfl⟩
          obtain ⟨ad, e_, hx_0, hx_1, hx_2⟩ := at_T32 HR0.out (i : Int) p_ q_
          cases e_
          rw [prn_rd l0 i hlt] at hx_0 hx_1 hx_2
          simp only [Int.toNat_natCast] at hx_0 hx_1 hx_2
          replace hx_0 := (HB.out.cell (World.block_lt_of_cell? w _ hx_0)).trans hx_0
          replace hx_1 := (HB.out.cell (World.block_lt_of_cell? w _ hx_1)).trans hx_1
          replace hx_2 := (HB.out.cell (World.block_lt_of_cell? w _ hx_2)).trans hx_2
          rw [← hx] at hx_0 hx_1 hx_2
          have HX := Aside0.mk hx
          have HW := Aside0.mk (show InI x.f0 ∧ InI x.f2 from HWF.out x (by rw [hx]; exact List.getElem_mem hlt))
          have hs3 : x.f1.size = 3 := vld_size (firstBad_zero l0 HZ.out x (by rw [hx]; exact List.getElem_mem hlt))
          clear hx
          obtain ⟨sd, hsd⟩ : ∃ s : ByteArray, s = ⟨(Lib.itoa x.f0).toArray⟩ := ⟨_, rfl⟩
          obtain ⟨sa, hsa⟩ : ∃ s : ByteArray, s = ⟨(Lib.itoa x.f2).toArray⟩ := ⟨_, rfl⟩
          have zd : sd.size ≤ 21 := by rw [hsd]; exact Lib.itoa_length_le x.f0 HW.out.1.lo HW.out.1.hi
          have za : sa.size ≤ 21 := by rw [hsa]; exact Lib.itoa_length_le x.f2 HW.out.2.lo HW.out.2.hi
          have HSD := Aside0.mk hsd
          have HSA := Aside0.mk hsa
          have HWL := Aside0.mk (show (Lib.byteCells acc).length + (sd ++ (⟨#[32]⟩ : ByteArray) ++ x.f1 ++ (⟨#[32]⟩ : ByteArray) ++ sa ++ (⟨#[10]⟩ : ByteArray)).size ≤ 140737488355328 by
            rw [Lib.byteCells_length]; simp only [ByteArray.size_append, show (⟨#[32]⟩ : ByteArray).size = 1 from rfl, show (⟨#[10]⟩ : ByteArray).size = 1 from rfl]; omega)
          have HLEN := Aside0.mk (show (acc ++ lineL x).length ≤ 1048576 + 48 by
            have e1 := congrArg ByteArray.size hsd; have e2 := congrArg ByteArray.size hsa
            rw [show (⟨(Lib.itoa x.f0).toArray⟩ : ByteArray).size = (Lib.itoa x.f0).length from rfl] at e1
            rw [show (⟨(Lib.itoa x.f2).toArray⟩ : ByteArray).size = (Lib.itoa x.f2).length from rfl] at e2
            have e3 : x.f1.data.toList.length = x.f1.size := rfl
            unfold lineL
            simp only [List.length_append, List.length_cons, List.length_nil, e3]
            omega)
          have z1 : (9223372036854775807 < sd.size + 1) = False := eq_false (by omega)
          have z2 : (9223372036854775807 < sd.size + 1 + x.f1.size) = False := eq_false (by omega)
          have z3 : (9223372036854775807 < sd.size + 1 + x.f1.size + 1) = False := eq_false (by omega)
          have z4 : (9223372036854775807 < sd.size + 1 + x.f1.size + 1 + sa.size) = False := eq_false (by omega)
          have z5 : (9223372036854775807 < sd.size + 1 + x.f1.size + 1 + sa.size + 1) = False := eq_false (by omega)
          clear hsd hsa hs3 zd za
          have hlti : decide ((i : Int) < (l0.length : Int)) = true := decide_eq_true q_
          have hltn : decide (i < l0.length) = true := decide_eq_true hlt
          go_wp2_with (((with_reducible refine gate_dst (N := 9) rfl ?_); refine box_event ?hg (N := 9) ?hd (cs := #[.int .i64 0, .string (⟨#[]⟩ : ByteArray), .int .i64 0]) (t := 32) ?hr ?_; (case hd => rfl); (case hg => rfl); (case hr => first | (go_simp; done) | (go_simp; rfl)); intro gb hg w8 hbox hb; have n1_ := Aside0.mk (below_step HB.out hb); have BK := Aside0.mk hbox; have GE := Aside0.mk (show w.heap.size ≤ gb by rw [hg]; exact HB.out.size); have HBp := Aside0.mk (show Below gb _ w8 by rw [hg]; exact hb); have HIp := Aside0.mk hg; clear HB; have HB := n1_; clear n1_; clear hb hbox hg; have hcz_0 : w8.cell? ⟨gb, 0, none⟩ = some (.int .i64 0) := (blk_cell BK.out 0).trans rfl; have hcz_1 : w8.cell? ⟨gb, 1, none⟩ = some (.string (⟨#[]⟩ : ByteArray)) := (blk_cell BK.out 1).trans rfl; have hcz_2 : w8.cell? ⟨gb, 2, none⟩ = some (.int .i64 0) := (blk_cell BK.out 2).trans rfl; have hfz_0 := blk_frozen BK.out 0; have hfz_1 := blk_frozen BK.out 1; have hfz_2 := blk_frozen BK.out 2))
          refine start_gen (n := 14) (S := fun w' => w'.cell? ⟨gb, 0, none⟩ = some (.int .i64 x.f0) ∧ w'.cell? ⟨gb, 1, none⟩ = some (.string x.f1) ∧ w'.cell? ⟨gb, 2, none⟩ = some (.int .i64 x.f2)) (ds := [13]) (fun w' => w'.heap[gb]? = some (.cells #[.int .i64 x.f0, .string x.f1, .int .i64 x.f2] 32 (0, 0)) ∧ Below w.heap.size w w' ∧ Lib.IsBuilder 54 5 w.heap.size g (Lib.byteCells acc) w') #[false, false, false, false, false, false, false, false, false, false, false, false, false, false] (by kernel_rfl) rfl rfl
            ⟨blk_put (cs := #[.int .i64 x.f0, .string x.f1, .int .i64 0]) (blk_put (cs := #[.int .i64 x.f0, .string (⟨#[]⟩ : ByteArray), .int .i64 0]) (blk_put (cs := #[.int .i64 0, .string (⟨#[]⟩ : ByteArray), .int .i64 0]) BK.out 0 _ rfl) 1 _ rfl) 2 _ rfl, below_set (below_set (below_set HB.out GE.out) GE.out) GE.out, isB_after HI.out HIp.out (((HBp.out.setCell (Nat.le_refl _) _).setCell (Nat.le_refl _) _).setCell (Nat.le_refl _) _)⟩
            (fun w1 ⟨h1, h2, h3⟩ => ⟨blk_drew h1, below_drew1 h2, isB_below h3 (below_drew1 (Below.refl _ _))⟩)
            (fun w1 ⟨h1, _, _⟩ => ⟨(blk_cell h1 0).trans rfl, (blk_cell h1 1).trans rfl, (blk_cell h1 2).trans rfl⟩) ?_
          clear BK HB HI HIp HBp hcz_0 hcz_1 hcz_2 hfz_0 hfz_1 hfz_2
          rintro w10 ⟨BK, HB, HI⟩ hHeld
          have BK := Aside0.mk BK; have HB := Aside0.mk HB; have HI := Aside0.mk HI
          refine pure_ (i := 0) (N := some 28) (v := ?_) (a' := ?_) #[true, false, false, false, false, false, false, false, false, false, false, false, false, false] rfl rfl (by kernel_rfl) (fun _ _ _ h => h) (Or.inl ⟨by rfl, ?_⟩) ?_ ?_
          rotate_left
          · intro w'
            go_simp
            with_reducible rfl
          rotate_left
          · simp only [Act.put, List.setIfInBounds_toArray, List.set_cons_zero, List.set_cons_succ, i64_w, i32_w]
            rfl
          refine pure_ (i := 4) (N := some 32) (v := ?_) (a' := ?_) #[true, false, false, false, true, false, false, false, false, false, false, false, false, false] rfl rfl (by kernel_rfl) (fun _ _ _ h => h) (Or.inl ⟨by rfl, ?_⟩) ?_ ?_
          rotate_left
          · intro w'
            go_simp
            with_reducible rfl
          rotate_left
          · simp only [Act.put, List.setIfInBounds_toArray, List.set_cons_zero, List.set_cons_succ, i64_w, i32_w]
            rfl
          refine pure_ (i := 8) (N := some 36) (v := ?_) (a' := ?_) #[true, false, false, false, true, false, false, false, true, false, false, false, false, false] rfl rfl (by kernel_rfl) (fun _ _ _ h => h) (Or.inl ⟨by rfl, ?_⟩) ?_ ?_
          rotate_left
          · intro w'
            go_simp
            with_reducible rfl
          rotate_left
          · simp only [Act.put, List.setIfInBounds_toArray, List.set_cons_zero, List.set_cons_succ, i64_w, i32_w]
            rfl
          refine take_ (i := 1) (N := some 29) (v := ?_) (a' := ?_) #[true, true, false, false, true, false, false, false, true, false, false, false, false, false] rfl rfl (by kernel_rfl) (fun _ _ _ h => h) (Or.inl ⟨by rfl, ?_⟩) hHeld ?_ ?_
          rotate_left
          · rintro w' ⟨s0, s1, s2⟩
            go_simp
            with_reducible rfl
          rotate_left
          · simp only [Act.put, List.setIfInBounds_toArray, List.set_cons_zero, List.set_cons_succ, i64_w, i32_w]
            rfl
          refine take_ (i := 5) (N := some 33) (v := ?_) (a' := ?_) #[true, true, false, false, true, true, false, false, true, false, false, false, false, false] rfl rfl (by kernel_rfl) (fun _ _ _ h => h) (Or.inl ⟨by rfl, ?_⟩) hHeld ?_ ?_
          rotate_left
          · rintro w' ⟨s0, s1, s2⟩
            go_simp
            with_reducible rfl
          rotate_left
          · simp only [Act.put, List.setIfInBounds_toArray, List.set_cons_zero, List.set_cons_succ, i64_w, i32_w]
            rfl
          refine take_ (i := 9) (N := some 37) (v := ?_) (a' := ?_) #[true, true, false, false, true, true, false, false, true, true, false, false, false, false] rfl rfl (by kernel_rfl) (fun _ _ _ h => h) (Or.inl ⟨by rfl, ?_⟩) hHeld ?_ ?_
          rotate_left
          · rintro w' ⟨s0, s1, s2⟩
            go_simp
            with_reducible rfl
          rotate_left
          · simp only [Act.put, List.setIfInBounds_toArray, List.set_cons_zero, List.set_cons_succ, i64_w, i32_w]
            rfl
          refine one_ (i := 2) (N := some 30) #[true, true, true, false, true, true, false, false, true, true, false, false, false, false] rfl rfl (by kernel_rfl) (by decide) (fun K hK => ?_)
          refine goes_ Tryd.func27 (by kernel_rfl) rfl #[.int .i64 x.f0] (by rfl) rfl rfl (by (try simp only [List.map_toArray, List.map_cons, List.map_nil]); first | done | rfl | (simp only [List.length_drop, List.length_take]; rfl)) ?_
          with_reducible refine (itoa_calls x.f0 HW.out.1.lo HW.out.1.hi _ (tab_below HT.out HB.out) sd HSD.out).mono ?_
          rintro e w11 ⟨rfl, hb⟩
          have n0_ := Aside0.mk (blk_below BK.out hb); have n1_ := Aside0.mk (HB.out.trans (hb.mono HB.out.size)); have n2_ := Aside0.mk (isB_below HI.out hb)
          clear BK HB HI
          have BK := n0_; have HB := n1_; have HI := n2_
          clear n0_ n1_ n2_ hb
          refine ⟨_, rfl, ?_⟩
          refine hK.out _ _ ⟨(blk_cell BK.out 0).trans rfl, (blk_cell BK.out 1).trans rfl, (blk_cell BK.out 2).trans rfl⟩ (fun hHeld => ?_)
          clear hK K
          refine norm_ (a' := ?_) ?_ ?_
          rotate_left
          · show Act.put _ (some 30) _ = _
            simp only [Act.put, List.setIfInBounds_toArray, List.set_cons_zero, List.set_cons_succ, i64_w, i32_w]
            rfl
          refine pure_ (i := 3) (N := some 31) (v := ?_) (a' := ?_) #[true, true, true, true, true, true, false, false, true, true, false, false, false, false] rfl rfl (by kernel_rfl) (fun _ _ _ h => h) (Or.inl ⟨by rfl, ?_⟩) ?_ ?_
          rotate_left
          · intro w'
            go_simp
            with_reducible rfl
          rotate_left
          · simp only [Act.put, List.setIfInBounds_toArray, List.set_cons_zero, List.set_cons_succ, i64_w, i32_w]
            rfl
          refine pure_ (i := 6) (N := some 34) (v := ?_) (a' := ?_) #[true, true, true, true, true, true, true, false, true, true, false, false, false, false] rfl rfl (by kernel_rfl) (fun _ _ _ h => h) (Or.inl ⟨by rfl, ?_⟩) ?_ ?_
          rotate_left
          · intro w'
            go_simp
            with_reducible rfl
          rotate_left
          · simp only [Act.put, List.setIfInBounds_toArray, List.set_cons_zero, List.set_cons_succ, i64_w, i32_w]
            rfl
          refine pure_ (i := 7) (N := some 35) (v := ?_) (a' := ?_) #[true, true, true, true, true, true, true, true, true, true, false, false, false, false] rfl rfl (by kernel_rfl) (fun _ _ _ h => h) (Or.inl ⟨by rfl, ?_⟩) ?_ ?_
          rotate_left
          · intro w'
            go_simp
            with_reducible rfl
          rotate_left
          · simp only [Act.put, List.setIfInBounds_toArray, List.set_cons_zero, List.set_cons_succ, i64_w, i32_w]
            rfl
          refine one_ (i := 10) (N := some 38) #[true, true, true, true, true, true, true, true, true, true, true, false, false, false] rfl rfl (by kernel_rfl) (by decide) (fun K hK => ?_)
          refine goes_ Tryd.func27 (by kernel_rfl) rfl #[.int .i64 x.f2] (by rfl) rfl rfl (by (try simp only [List.map_toArray, List.map_cons, List.map_nil]); first | done | rfl | (simp only [List.length_drop, List.length_take]; rfl)) ?_
          with_reducible refine (itoa_calls x.f2 HW.out.2.lo HW.out.2.hi _ (tab_below HT.out HB.out) sa HSA.out).mono ?_
          rintro e w12 ⟨rfl, hb⟩
          have n0_ := Aside0.mk (blk_below BK.out hb); have n1_ := Aside0.mk (HB.out.trans (hb.mono HB.out.size)); have n2_ := Aside0.mk (isB_below HI.out hb)
          clear BK HB HI
          have BK := n0_; have HB := n1_; have HI := n2_
          clear n0_ n1_ n2_ hb
          refine ⟨_, rfl, ?_⟩
          refine hK.out _ _ ⟨(blk_cell BK.out 0).trans rfl, (blk_cell BK.out 1).trans rfl, (blk_cell BK.out 2).trans rfl⟩ (fun hHeld => ?_)
          clear hK K
          refine norm_ (a' := ?_) ?_ ?_
          rotate_left
          · show Act.put _ (some 38) _ = _
            simp only [Act.put, List.setIfInBounds_toArray, List.set_cons_zero, List.set_cons_succ, i64_w, i32_w]
            rfl
          refine pure_ (i := 11) (N := some 39) (v := ?_) (a' := ?_) #[true, true, true, true, true, true, true, true, true, true, true, true, false, false] rfl rfl (by kernel_rfl) (fun _ _ _ h => h) (Or.inl ⟨by rfl, ?_⟩) ?_ ?_
          rotate_left
          · intro w'
            go_simp
            with_reducible rfl
          rotate_left
          · simp only [Act.put, List.setIfInBounds_toArray, List.set_cons_zero, List.set_cons_succ, i64_w, i32_w]
            rfl
          refine pure_ (i := 12) (N := some 40) (v := ?_) (a' := ?_) #[true, true, true, true, true, true, true, true, true, true, true, true, true, false] rfl rfl (by kernel_rfl) (fun _ _ _ h => h) (Or.inl ⟨by rfl, ?_⟩) ?_ ?_
          rotate_left
          · intro w'
            go_simp
            with_reducible rfl
          rotate_left
          · simp only [Act.put, List.setIfInBounds_toArray, List.set_cons_zero, List.set_cons_succ, i64_w, i32_w]
            rfl
          refine last_ (i := 13) (N := some 41) #[true, true, true, true, true, true, true, true, true, true, true, true, true, true] rfl rfl (by kernel_rfl) (by decide) (fun K hK => ?_)
          refine goes_ Tryd.func26 (by kernel_rfl) rfl #[.pointer (some ⟨g, 0, none⟩), .string (sd ++ (⟨#[32]⟩ : ByteArray) ++ x.f1 ++ (⟨#[32]⟩ : ByteArray) ++ sa ++ (⟨#[10]⟩ : ByteArray))] (by rfl) rfl rfl (by (try simp only [List.map_toArray, List.map_cons, List.map_nil]); first | done | rfl | (simp only [List.length_drop, List.length_take]; rfl)) ?_
          with_reducible refine (b_WriteString w.heap.size g (Lib.byteCells acc) _ _ HI.out HWL.out HB.out.size).mono ?_
          rintro e w13 ⟨rfl, hi, hb⟩
          have n1_ := Aside0.mk (HB.out.trans hb); have n2_ := Aside0.mk (isB_line hi HSD.out HSA.out)
          clear BK HB HI
          have HB := n1_; have HI := n2_
          clear n1_ n2_ hb hi
          refine ⟨_, rfl, ?_⟩
          refine hK.out _ _ ?_
          clear hK K
          refine norm_ (a' := ?_) ?_ ?_
          rotate_left
          · show Act.put _ (some 41) _ = _
            simp only [Act.put, List.setIfInBounds_toArray, List.set_cons_zero, List.set_cons_succ, i64_w, i32_w]
            rfl
          refine done_ (by kernel_rfl) ?_
          obtain ⟨big, hbig⟩ : ∃ b : Bool, b = decide (1048576 < (acc ++ lineL x).length) := ⟨_, rfl⟩
          have HBIG := Aside0.mk hbig
          obtain ⟨nn, hnn⟩ : ∃ n : Nat, n = (acc ++ lineL x).length := ⟨_, rfl⟩
          have HNN := Aside0.mk hnn
          have hnb : nn ≤ 1048576 + 48 := by rw [hnn]; exact HLEN.out
          have HPD := Aside0.mk (prn_drop acc l0 i hlt)
          clear hbig hnn
          by_cases hb1 : nn ≤ 1048576
          · have hb2 : decide (1048576 < (nn : Int)) = false := decide_eq_false (by omega)
            have hb3 : decide (1048576 < nn) = false := decide_eq_false (by omega)
            go_wp2_with (go_at_call 28; (with_reducible refine (b_Len2 w.heap.size g (acc ++ lineL x) _ nn HNN.out HI.out).mono ?_); rintro e w9 ⟨rfl, rfl⟩)
            go_roundg (l0.length - (i + 1))
            case measure => omega
            case rel => exact ⟨i + 1, acc ++ lineL x, by go_num, by omega, by omega, by rw [← HNN.out]; exact hb1, ⟨by have h1 := HPD.out; rw [if_pos (by rw [← HX.out, ← HNN.out]; exact hb1), ← HX.out] at h1; exact h1.symm.trans HP.out⟩, HI, HB⟩
          · have hb2 : decide (1048576 < (nn : Int)) = true := decide_eq_true (by omega)
            have hb3 : decide (1048576 < nn) = true := decide_eq_true (by omega)
            go_wp2_with (go_at_call 28; (with_reducible refine (b_Len2 w.heap.size g (acc ++ lineL x) _ nn HNN.out HI.out).mono ?_); rintro e w9 ⟨rfl, rfl⟩)
            have hr : (r1, r2) = ((⟨#[]⟩ : ByteArray), 6) := by
              have h1 := HPD.out
              rw [if_neg (by rw [← HX.out, ← HNN.out]; exact hb1)] at h1
              have h2 := HA.out
              unfold printP at h2
              rw [if_pos HZ.out, ← HP.out, h1] at h2
              exact h2.symm
            simp only [Prod.mk.injEq] at hr
            obtain ⟨rfl, rfl⟩ := hr
            go_ret2
            exact ⟨by first | rfl | (simp; done), HB.out⟩
        · have hlti : decide ((i : Int) < (l0.length : Int)) = false := decide_eq_false (by omega)
          have hltn : decide (i < l0.length) = false := decide_eq_false hlt
          have HLT := Aside0.mk hlt
          clear hlt
          have hr : (r1, r2) = ((⟨acc.toArray⟩ : ByteArray), 0) := by
            have h2 := HA.out
            unfold printP at h2
            rw [if_pos HZ.out, ← HP.out, List.drop_of_length_le (by have := HLT.out; omega)] at h2
            exact h2.symm
          simp only [Prod.mk.injEq] at hr
          obtain ⟨rfl, rfl⟩ := hr
          go_wp2_with (go_at_call 29; (with_reducible refine (b_String w.heap.size g acc _ HI.out HB.out.size).mono ?_); rintro e w9 ⟨rfl, hb⟩; have n1_ := Aside0.mk (HB.out.trans hb); clear HB; have HB := n1_; clear n1_ hb)
          go_ret2
          exact ⟨by first | rfl | (simp; done), HB.out⟩
end Go.Proofs.YtdfndbegifdejaaDoor.GD
