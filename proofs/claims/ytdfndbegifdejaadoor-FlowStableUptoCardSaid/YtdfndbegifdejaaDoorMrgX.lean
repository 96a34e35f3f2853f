/- Merged: MrgP, MrgC, MrgW, InsR, MrgG. -/
import Derived.Test.YtdfndbegifdejaaDoorSrt
import Derived.Test.YtdfndbegifdejaaDoorGSx0
import Derived.Test.YtdfndbegifdejaaDoorMrg
import Derived.WalkLawsBesides
import Derived.Deep.LoopGhost
import Derived.BigQuiet
import Derived.Deep.QuietTactic
import Derived.Outline
import Derived.Shelf.SlLaysF0
import Derived.Shelf.SlSortCmp.PdqK
/-! ### MrgP -/
/- Merging sorted lists by the least head, first list first: the plain law (no program in sight). -/
namespace Go.Proofs.YtdfndbegifdejaaDoorStab
set_option linter.unusedSectionVars false
set_option linter.unusedVariables false
set_option linter.unusedSimpArgs false

section
variable {α : Type} (key : α → Int)

theorem set_flatten_split : ∀ (rs : List (List α)) (i : Nat) (x : α) (t : List α), rs[i]? = some (x :: t) →
    ∃ A B, rs.flatten = A ++ x :: (t ++ B) ∧ (rs.set i t).flatten = A ++ (t ++ B) ∧ A = (rs.take i).flatten
  | [], i, x, t, h => by simp at h
  | r :: rs, 0, x, t, h => by
    simp at h; subst h
    exact ⟨[], rs.flatten, by simp, by simp, by simp⟩
  | r :: rs, i + 1, x, t, h => by
    simp at h
    obtain ⟨A, B, h1, h2, h3⟩ := set_flatten_split rs i x t h
    refine ⟨r ++ A, B, by simp [h1], by simp [h2], by simp [h3]⟩

/-- The least head of the first list that has it: the classes, and what is left. -/
theorem pick_cls (rs : List (List α)) (i : Nat) (x : α) (t : List α) (h : rs[i]? = some (x :: t))
    (hlt : ∀ y ∈ (rs.take i).flatten, key x < key y) (k : Int) : Cls key k rs.flatten = Cls key k (x :: (rs.set i t).flatten) := by
  obtain ⟨A, B, h1, h2, h3⟩ := set_flatten_split rs i x t h
  rw [h1, h2]
  rw [← h3] at hlt
  by_cases hk : key x = k
  · have e : Cls key k A = [] := cls_nil_of key fun y hy he => by have := hlt y hy; omega
    rw [cls_append, e, show x :: (A ++ (t ++ B)) = [x] ++ (A ++ (t ++ B)) from rfl, cls_append key k [x], cls_append, e, show x :: (t ++ B) = [x] ++ (t ++ B) from rfl, cls_append key k [x]]
    simp
  · have e : ∀ l : List α, Cls key k (x :: l) = Cls key k l := fun l => by simp [Cls, hk]
    rw [cls_append, e, e, cls_append, cls_append, cls_append]

theorem mem_set_flatten (rs : List (List α)) (i : Nat) (x : α) (t : List α) (h : rs[i]? = some (x :: t)) {y : α} (hy : y ∈ (rs.set i t).flatten) : y ∈ rs.flatten := by
  obtain ⟨A, B, h1, h2, h3⟩ := set_flatten_split rs i x t h
  rw [h2] at hy; rw [h1]
  simp at hy ⊢
  rcases hy with h | h | h <;> simp [h]

/-- What a merge by the least head comes to. -/
inductive Mrg : List (List α) → List α → Prop
  | done (rs : List (List α)) (h : ∀ r ∈ rs, r = []) : Mrg rs []
  | pick (rs : List (List α)) (i : Nat) (x : α) (t : List α) (h : rs[i]? = some (x :: t)) (hlt : ∀ y ∈ (rs.take i).flatten, key x < key y) (hle : ∀ y ∈ rs.flatten, key x ≤ key y)
      (m : List α) (hm : Mrg (rs.set i t) m) : Mrg rs (x :: m)

theorem Mrg.law {rs : List (List α)} {m : List α} (h : Mrg key rs m) : KSorted key m ∧ (∀ k, Cls key k m = Cls key k rs.flatten) := by
  induction h with
  | done rs h =>
    refine ⟨List.Pairwise.nil, fun k => ?_⟩
    have : rs.flatten = [] := by rw [List.flatten_eq_nil_iff]; exact h
    rw [this]
  | pick rs i x t h hlt hle m hm ih =>
    obtain ⟨i1, i2⟩ := ih
    refine ⟨List.pairwise_cons.2 ⟨fun y hy => ?_, i1⟩, fun k => ?_⟩
    · exact hle y (mem_set_flatten rs i x t h (mem_of_cls key i2 hy))
    · rw [pick_cls key rs i x t h hlt k]
      have e : ∀ l : List α, Cls key k (x :: l) = (if key x = k then [x] else []) ++ Cls key k l := fun l => by
        by_cases hk : key x = k <;> simp [Cls, hk]
      rw [e, e, i2 k]

/-- A merge of sorted lists is the stable sorting of their concatenation. -/
theorem Mrg.unique {rs : List (List α)} {m s : List α} (h : Mrg key rs m) (hs : KSorted key s) (hc : ∀ k, Cls key k s = Cls key k rs.flatten) : m = s :=
  sorted_unique key m s (Mrg.law key h).1 hs fun k => ((Mrg.law key h).2 k).trans (hc k).symm
end
end Go.Proofs.YtdfndbegifdejaaDoorStab

/-! ### MrgC -/
/- The comparing closure of flow.Merge, as the library's sorting asks of it. -/
namespace Go.Proofs.YtdfndbegifdejaaDoor.GD
set_option linter.unusedVariables false
set_option linter.unusedSimpArgs false
open Go.RowKit Go.Proofs.YtdfndbegifdejaaDoorW.PrintWords Go.Proofs.YtdfndbegifdejaaDoorW.PrintLast Go.Proofs.YtdfndbegifdejaaDoorW.PrintMore Go.Proofs.YtdfndbegifdejaaDoorMine Go.Proofs.YtdfndbegifdejaaDoorStab Go.Proofs Go.Shelf Go.Sort

instance : Inhabited S32 := ⟨⟨0, ByteArray.empty, 0⟩⟩
def enc32 (x : S32) : List Value := [.int .i64 x.f0, .string x.f1, .int .i64 x.f2]
theorem flat32 : Flat0 k32 enc32 := ⟨fun h => k32_open h, fun w b ok x => k32_mkM w b ok x⟩
def day (x : S32) : Int := x.f0
def m3 (a b : Int) : Int := if a < b then -1 else if b < a then 1 else 0
theorem m3_lt (a b : Int) : m3 a b < 0 ↔ a < b := by unfold m3; split <;> (try split) <;> omega

theorem isNaN.calls (a : Int) (w : World) : Calls Tryd.prog 56 #[.int .i64 a] w fun e w' => e = .returned (.bool false) ∧ w = w' := by
  go_enter Tryd.func56, Tryd.ntmps56
  go_wp2
  go_ret
  exact ⟨by simp, rfl⟩
theorem cmpCompare.calls (a b : Int) (w : World) : Calls Tryd.prog 37 #[.int .i64 a, .int .i64 b] w fun e w' => e = .returned (.int .i64 (m3 a b)) ∧ w = w' := by
  by_cases h1 : a < b
  · have hc : Aside0 (m3 a b = -1) := ⟨by simp [m3, h1]⟩
    go_enter Tryd.func37, Tryd.ntmps37
    go_wp2_with (go_at_call 56; refine (isNaN.calls _ _).mono ?_; rintro e w1 ⟨rfl, rfl⟩)
    go_ret
    exact ⟨by rw [hc.out]; rfl, rfl⟩
  · by_cases h2 : b < a
    · have hc : Aside0 (m3 a b = 1) := ⟨by simp [m3, h1, h2]⟩
      go_enter Tryd.func37, Tryd.ntmps37
      go_wp2_with (go_at_call 56; refine (isNaN.calls _ _).mono ?_; rintro e w1 ⟨rfl, rfl⟩)
      go_ret
      exact ⟨by rw [hc.out]; rfl, rfl⟩
    · have hc : Aside0 (m3 a b = 0) := ⟨by simp [m3, h1, h2]⟩
      go_enter Tryd.func37, Tryd.ntmps37
      go_wp2_with (go_at_call 56; refine (isNaN.calls _ _).mono ?_; rintro e w1 ⟨rfl, rfl⟩)
      go_ret
      exact ⟨by rw [hc.out]; rfl, rfl⟩

theorem mergeCmp.calls (x y : S32) (w : World) : Calls Tryd.prog 44 #[.agg (enc32 x).toArray, .agg (enc32 y).toArray] w fun e w' => e = .returned (.int .i64 (m3 x.f0 y.f0)) ∧ ∃ os : Array Obj, w' = grow w os := by
  unfold enc32
  go_enter Tryd.func44, Tryd.ntmps44
  go_wp2_with (go_at_call 37; refine (cmpCompare.calls _ _ _).mono ?_; rintro e w1 ⟨rfl, rfl⟩)
  go_ret
  exact ⟨rfl, #[.cells #[.int .i64 x.f0, .string x.f1, .int .i64 x.f2] 32 (0, 0)] ++ #[.cells #[.int .i64 y.f0, .string y.f1, .int .i64 y.f2] 32 (0, 0)], by rw [alloc_eq_grow, alloc_eq_grow, grow_grow]⟩

theorem mergeCmp.lays (blk off size : Nat) (w : World) : CmpLays Tryd.prog 44 #[] enc32 3 (fun x y => m3 x.f0 y.f0) blk off size w := fun m os dk hs x y => by
  refine (mergeCmp.calls x y _).mono ?_
  rintro e w' ⟨rfl, os', rfl⟩
  exact ⟨rfl, 0, os', by rfl⟩
end Go.Proofs.YtdfndbegifdejaaDoor.GD

/-! ### MrgW -/
/- flow.Merge: its contract. -/
namespace Go.Proofs.YtdfndbegifdejaaDoor.GD
set_option linter.unusedVariables false
set_option linter.unusedSimpArgs false
open Go.RowKit Go.Proofs.YtdfndbegifdejaaDoorW.PrintWords Go.Proofs.YtdfndbegifdejaaDoorW.PrintLast Go.Proofs.YtdfndbegifdejaaDoorW.PrintMore Go.Proofs.YtdfndbegifdejaaDoorMine Go.Proofs.YtdfndbegifdejaaDoorStab

def Good (l0 : List (List S32)) (m : List S32) (r2 : Int) : Prop :=
  ((∀ l ∈ l0, KSorted day l) ∧ r2 = 0 ∧ KSorted day m ∧ ∀ k, Cls day k m = Cls day k l0.flatten) ∨ ((∃ l ∈ l0, ¬ KSorted day l) ∧ r2 = 1 ∧ m = [])

def UpTo (l : List S32) (k : Nat) : Prop := ∀ j, j + 1 < k → (rd_T32 l j).f0 ≤ (rd_T32 l ((j + 1 : Nat) : Int)).f0

theorem rd32 (l : List S32) (k : Nat) (h : k < l.length) : rd_T32 l (k : Int) = l[k] := by
  simp [rd_T32, h]
theorem rdL3 (l : List (List S32)) (k : Nat) (h : k < l.length) : rd_L3 l (k : Int) = l[k] := by
  simp [rd_L3, h]
theorem upTo_sorted (l : List S32) (h : UpTo l l.length) : KSorted day l := by
  unfold KSorted
  rw [List.pairwise_iff_getElem]
  intro i j hi hj hij
  have key : ∀ n, ∀ h2 : i + n < l.length, day l[i] ≤ day l[i + n] := by
    intro n
    induction n with
    | zero => intro _; exact Int.le_refl _
    | succ n ih =>
      intro h2
      have h3 := ih (by omega)
      have h4 := h (i + n) (by omega)
      rw [rd32 _ _ (by omega), rd32 _ _ (by omega)] at h4
      exact Int.le_trans h3 h4
  have := key (j - i) (by omega)
  simpa [show i + (j - i) = j by omega] using this
theorem not_sorted (l : List S32) (q : Nat) (h : q + 1 < l.length) (hd : (rd_T32 l ((q + 1 : Nat) : Int)).f0 < (rd_T32 l (q : Int)).f0) : ¬ KSorted day l := by
  intro hs
  unfold KSorted at hs
  rw [List.pairwise_iff_getElem] at hs
  have := hs q (q + 1) (by omega) h (by omega)
  rw [rd32 _ _ h, rd32 _ _ (by omega)] at hd
  unfold day at this
  omega
theorem take_flat (l0 : List (List S32)) (i : Nat) (h : i < l0.length) : (l0.take (i + 1)).flatten = (l0.take i).flatten ++ rd_L3 l0 (i : Int) := by
  rw [rdL3 _ _ h, List.take_succ_eq_append_getElem h, List.flatten_append]; simp
theorem flat_le (l0 : List (List S32)) (i : Nat) (h : i < l0.length) : (l0.take i).flatten.length + (rd_L3 l0 (i : Int)).length ≤ l0.flatten.length := by
  have h1 := take_flat l0 i h
  have h2 : l0.flatten = (l0.take (i + 1)).flatten ++ (l0.drop (i + 1)).flatten := by rw [← List.flatten_append, List.take_append_drop]
  have h3 := congrArg List.length h1
  have h4 := congrArg List.length h2
  simp only [List.length_append] at h3 h4
  omega
theorem rdL3_mem (l0 : List (List S32)) (i : Nat) (h : i < l0.length) : rd_L3 l0 (i : Int) ∈ l0 := by
  rw [rdL3 _ _ h]; exact List.getElem_mem h

/-- What the insertion sort comes to, wherever it is called on flows. -/
def InsAll : Prop := ∀ (blk off cap : Nat) (d0 : Array S32) (w0 : World), RowK enc32 3 w0 blk off d0 → d0.size < 4611686018427387904 → InsC Tryd.prog 3 enc32 day 44 #[] blk off cap d0.size w0

theorem ins_none (w : World) : Calls Tryd.prog 67 #[.slice none 0 0, .int .i64 0, .int .i64 0, .func (.func 44) #[] #[]] w fun e w' => e = .returned (.tuple #[]) ∧ w = w' := by
  go_enter Tryd.func67, Tryd.ntmps67
  go_wp2
  go_loopg [8] 1 (fun kx s6 wr => s6 = .int .i64 1 ∧ w = wr)
  case atStart => exact ⟨rfl, rfl⟩
  case round =>
    obtain ⟨rfl, rfl⟩ := hrel
    go_wp2
    go_end0
    exact ⟨rfl, rfl⟩
theorem stable_none (w : World) : Calls Tryd.prog 59 #[.slice none 0 0, .int .i64 0, .func (.func 44) #[] #[]] w fun e w' => e = .returned (.tuple #[]) ∧ w = w' := by
  go_enter Tryd.func59, Tryd.ntmps59
  go_wp2
  go_loopg [7, 8] 1 (fun kx s7 s8 wr => s7 = .int .i64 0 ∧ s8 = .int .i64 20 ∧ w = wr)
  case atStart => exact ⟨rfl, rfl, rfl⟩
  case round =>
    obtain ⟨rfl, rfl, rfl⟩ := hrel
    go_wp2_with (go_at_call 67; refine (ins_none _).mono ?_; rintro e w1 ⟨rfl, rfl⟩)
    go_loopg [6] 1 (fun kx s6 wr => s6 = .int .i64 20 ∧ w = wr)
    case atStart => exact ⟨rfl, rfl⟩
    case round =>
      obtain ⟨rfl, rfl⟩ := hrel
      go_wp2
      go_end0
      exact ⟨rfl, rfl⟩
theorem sortStable_none (w : World) : Calls Tryd.prog 43 #[.slice none 0 0, .func (.func 44) #[] #[]] w fun e w' => e = .returned (.tuple #[]) ∧ w = w' := by
  go_enter Tryd.func43, Tryd.ntmps43
  go_wp2_with (go_at_call 59; refine (stable_none _).mono ?_; rintro e w1 ⟨rfl, rfl⟩)
  go_end0
  exact ⟨rfl, rfl⟩

set_option maxHeartbeats 4000000 in
/-- A row of flows of one's own is sorted in its place. -/
theorem sortRow (HI : InsAll) (W : World) (base : Nat) (ok : Nat → Prop) (v : Value) (xs : List S32) (hr : k32.R 32 W base ok v xs) (hn : xs.length ≤ 1048576) :
    Calls Tryd.prog 43 #[v, .func (.func 44) #[] #[]] W fun e w' => e = .returned (.tuple #[]) ∧ ∃ m, m.length = xs.length ∧ k32.R 32 w' base ok v m ∧ W.grownBy w' v.ownBlock ∧ KSorted day m ∧ ∀ k, Cls day k m = Cls day k xs := by
  obtain ⟨inner, hown⟩ := Kd.R_own hr
  rcases hown.2 with ⟨rfl, h0⟩ | ⟨g, cap, cur, rfl, _⟩
  · obtain rfl := List.eq_nil_of_length_eq_zero h0
    refine (sortStable_none W).mono ?_
    rintro e w' ⟨rfl, rfl⟩
    exact ⟨rfl, [], rfl, hr, World.grownBy.refl _ _, List.Pairwise.nil, fun _ => rfl⟩
  · obtain ⟨hR, hS⟩ := flat32.sort_in (by decide) hr
    have hsz : xs.toArray.size = xs.length := by simp
    have hM : SymC Tryd.prog 3 enc32 day 44 #[] g 0 cap xs.toArray.size W := fun a m b d w hd hS ham hmb hb hX hY =>
      symMerge 3 lays enc32 day (fun x y => m3 x.f0 y.f0) (fun x y => m3_lt _ _) 44 #[] (enters_of Tryd.func44 (by kernel_rfl) rfl) g 0 cap xs.toArray W (mergeCmp.lays _ _ _ _) hR (by omega) (b - a) a m b d w hd hS ham hmb hb (Nat.le_refl _) hX hY
    have hc := sortStable 3 lays enc32 day 44 #[] g 0 cap xs.toArray W W (HI g 0 cap xs.toArray W hR (by omega)) hM (by omega) hS
    rw [hsz] at hc
    refine hc.mono ?_
    rintro e w' ⟨rfl, dk, hG, hT, hS2⟩
    have hl : dk.size = xs.length := hG.size.trans hsz
    obtain ⟨h1, h2⟩ := flat32.sort_out (by decide) hr hS2 hl
    refine ⟨rfl, dk.toList, by simpa using hl, h1, h2, ?_, fun k => ?_⟩
    · have := ksorted_slc hT
      rwa [← hl, slc_all] at this
    · have := hG.cls k
      rw [← hl, slc_all, hl, ← hsz, slc_all] at this
      exact this

set_option maxHeartbeats 4000000 in
set_option maxRecDepth 100000 in
theorem flow_Merge.calls (HI : InsAll) (A0 : Option Addr) (c0 : Nat) (l0 : List (List S32)) (w : World) (hr0 : Kd.C (Kd.slice 32 k32) w A0 l0.length l0) (hc0 : l0.length ≤ c0) (hn0 : l0.length ≤ 1048576) (hfl : l0.flatten.length ≤ 1048576) :
    Calls Tryd.prog 24 #[.slice A0 l0.length c0] w fun e w' => ∃ (v : Value) (m : List S32) (r2 : Int), e = .returned (.tuple #[v, .int .i64 r2]) ∧ Kd.R k32 32 w' w.heap.size (fun _ => True) v m ∧ Below w.heap.size w w' ∧ m.length ≤ 1048576 ∧ Good l0 m r2 := by
  have HR0 := Aside0.mk hr0
  have HC0 := Aside0.mk hc0
  have HFL := Aside0.mk hfl
  clear hr0 hc0 hfl
  go_enter Tryd.func24, Tryd.ntmps24
  go_wp2
  go_step3
  go_wp2
  go_step3
  go_wp2
  go_loopg [4, 11] l0.length (fun kx s4 s11 wr => ∃ (i : Nat), s11 = .int .i64 i ∧ i ≤ l0.length ∧ l0.length - i ≤ kx ∧ Aside0 (Kd.R k32 32 wr w.heap.size (fun _ => True) s4 (l0.take i).flatten) ∧ Aside0 (Below w.heap.size w wr) ∧ Aside0 (∀ l ∈ l0.take i, KSorted day l))
  case atStart => exact ⟨0, rfl, Nat.zero_le _, by omega, Aside0.mk (Kd.R_nil _ _ _ _ _), Aside0.mk (Below.refl _ _), Aside0.mk (by simp)⟩
  case round =>
    obtain ⟨i, rfl, hi, hkx, HO, HB, HS⟩ := hrel
    obtain ⟨wo, rfl⟩ : ∃ wo : World, wo = wr := ⟨_, rfl⟩
    by_cases hlt : i < l0.length
    · have hltz : (i : Int) < (l0.length : Int) := by omega
      have hle : (rd_L3 l0 i).length ≤ 1048576 := by have := flat_le l0 i hlt; have := HFL.out; omega
      obtain ⟨ad, A1, c1, hA, hc, hcc, hC⟩ := at_L3 (Kd.C_below HR0.out HB.out) (i : Int) (by omega) hltz
      have HCC := Aside0.mk hcc
      have HC1 := Aside0.mk hC
      clear hcc hC
      rw [Int.toNat_natCast] at hc
      generalize hl : rd_L3 l0 (i : Int) = l at *
      have HL := Aside0.mk hl
      clear hl
      subst hA
      have hl0 : (l.length : Int) ≤ 1048576 := by omega
      go_wp2
      go_loopg [17] l.length (fun kx s17 wr => ∃ (k : Nat), s17 = .int .i64 k ∧ k ≤ l.length ∧ l.length - k ≤ kx ∧ Aside0 (Below wo.heap.size wo wr) ∧ Aside0 (UpTo l k))
      case atStart => exact ⟨0, rfl, Nat.zero_le _, by omega, Aside0.mk (Below.refl _ _), Aside0.mk (fun j h => by omega)⟩
      case round =>
        obtain ⟨k, rfl, hk, hkx2, HB2, HU⟩ := hrel
        obtain ⟨wi, rfl⟩ : ∃ wi : World, wi = wr := ⟨_, rfl⟩
        by_cases hlk : k < l.length
        · have hlkz : (k : Int) < (l.length : Int) := by omega
          obtain ⟨ad1, hA1, hx0, hx1, hx2⟩ := at_T32 (Kd.C_below HC1.out HB2.out) (k : Int) (by omega) hlkz
          subst hA1
          rw [Int.toNat_natCast] at hx0 hx1 hx2
          by_cases hk0 : 0 < k
          · obtain ⟨q, hq⟩ : ∃ q : Nat, k = q + 1 := ⟨k - 1, by omega⟩
            have hq1 : (q : Int) < (l.length : Int) := by omega
            obtain ⟨ad2, hA2, hy0, hy1, hy2⟩ := at_T32 (Kd.C_alloc (Kd.C_below HC1.out HB2.out) (Obj.cells #[.int .i64 (rd_T32 l (k : Int)).f0, .string (rd_T32 l (k : Int)).f1, .int .i64 (rd_T32 l (k : Int)).f2] 32 (0, 0))) (q : Int) (by omega) hq1
            obtain rfl : ad1 = ad2 := Option.some.inj hA2
            clear hA2 hy1 hy2
            rw [Int.toNat_natCast] at hy0
            have rq : IntKind.i64.wrap ((k : Int) - 1) = (q : Int) := by rw [IntKind.wrap_i64]; omega
            have HQ := Aside0.mk hq
            clear hq
            have hkz : (0 : Int) < (k : Int) := by omega
            have hkd : decide ((0 : Int) < (k : Int)) = true := decide_eq_true hkz
            by_cases hd : (rd_T32 l (k : Int)).f0 < (rd_T32 l (q : Int)).f0
            · have hdd : decide ((rd_T32 l (k : Int)).f0 < (rd_T32 l (q : Int)).f0) = true := decide_eq_true hd
              go_wp2_with fail
              go_quiet (fail)
              have HNS : Aside0 (¬ KSorted day l) := Aside0.mk (by
                have h1 := HQ.out
                subst h1
                exact not_sorted l q hlk hd)
              clear hd hdd
              go_wp2
              rw [Exit.noGoto_ret]
              go_ret2
              exact ⟨_, [], 1, rfl, Kd.R_nil _ _ _ _ _, (HB.out.trans (Below.mono (pw_below_drewN (below_alloc HB2.out _) _) HB.out.size)), by simp, .inr ⟨⟨l, by rw [← HL.out]; exact rdL3_mem l0 i hlt, HNS.out⟩, rfl, rfl⟩⟩
            · have hdd : decide ((rd_T32 l (k : Int)).f0 < (rd_T32 l (q : Int)).f0) = false := decide_eq_false hd
              have HD := Aside0.mk hd
              have hd2 : (rd_T32 l (q : Int)).f0 ≤ (rd_T32 l (k : Int)).f0 := by omega
              go_wp2_with fail
              go_quiet (fail)
              go_wp2
              go_roundg (l.length - (k + 1))
              case measure => omega
              case rel =>
                refine ⟨k + 1, by go_num, by omega, Nat.le_refl _, Aside0.mk (pw_below_drewN (below_alloc HB2.out _) _), Aside0.mk (fun j hj => ?_)⟩
                by_cases e : j + 1 < k
                · exact HU.out j e
                · have h1 := HQ.out
                  obtain rfl : j = q := by omega
                  rw [← h1]; exact hd2
          · have hkd : decide ((0 : Int) < (k : Int)) = false := decide_eq_false (by omega)
            have hkz : ¬ (0 : Int) < (k : Int) := by omega
            go_wp2_with fail
            go_quiet (fail)
            go_wp2
            go_roundg (l.length - (k + 1))
            case measure => omega
            case rel => exact ⟨k + 1, by go_num, by omega, Nat.le_refl _, Aside0.mk (pw_below_drewN (below_alloc HB2.out _) _), Aside0.mk (fun j hj => by omega)⟩
        · have hlkz : ¬ (k : Int) < (l.length : Int) := by omega
          have HSL : Aside0 (KSorted day l) := Aside0.mk (upTo_sorted l (by
            have := HU.out
            rwa [show k = l.length by omega] at this))
          have HFI := Aside0.mk (take_flat l0 i hlt)
          have HLE := Aside0.mk (flat_le l0 i hlt)
          have HO2 := Aside0.mk (Kd.R_below HO.out HB2.out)
          have HB3 := Aside0.mk (HB.out.trans (Below.mono HB2.out HB.out.size))
          have HC2 := Aside0.mk (Kd.C_below HC1.out HB2.out)
          have HS2 : Aside0 (∀ l' ∈ l0.take (i + 1), KSorted day l') := Aside0.mk (by
            intro l' hm
            rw [List.take_succ_eq_append_getElem hlt, List.mem_append] at hm
            rcases hm with hm | hm
            · exact HS.out l' hm
            · rw [← rdL3 _ _ hlt, HL.out] at hm
              rw [List.mem_singleton.1 hm]; exact HSL.out)
          clear HU HS HSL HO HB HB2 HC1
          by_cases hz : l.length = 0
          · have hzb : ((l.length : Int) == 0) = true := by rw [beq_iff_eq]; omega
            have HZ := Aside0.mk hz
            clear hz
            go_wp2
            go_roundg (l0.length - (i + 1))
            case measure => omega
            case rel =>
              refine ⟨i + 1, by go_num, by omega, Nat.le_refl _, Aside0.mk ?_, HB3, HS2⟩
              have e := HFI.out
              rw [HL.out, List.eq_nil_of_length_eq_zero HZ.out, List.append_nil] at e
              rw [e]; exact HO2.out
          · have hzb : ((l.length : Int) == 0) = false := by rw [beq_eq_false_iff_ne]; omega
            have hpos : 0 < l.length := by omega
            clear hz
            go_wp2_with ((with_reducible refine gate_builtin (b := .append) (xs := #[.tmp 39, .tmp 40]) rfl ?_); at_builtin; refine Kd.R_append_rows k32 (w0 := w) w.heap.size rfl (.tmp 39) (.tmp 40) 22 32 (.agg #[(.int .i64 0), (.string ⟨#[]⟩), (.int .i64 0)]) 32 rfl Tryd.underlying22 info32 rfl (by decide) (by omega) _ (l0.take i).flatten l _ _ _ (fun _ => True) (fun _ => False) rfl rfl HO2.out HC2.out (fun x cs h => by rw [k32_open h]; exact k32_mkM _ _ _ x) (fun _ h => h.elim) (fun _ _ => trivial) HB3.out HB3.out.size ?aL ?_; (case aL => have h1 := HLE.out; rw [HL.out] at h1; have h2 := HFL.out; omega); intro v128 w5 ho hb hg hat; have HO3 := Aside0.mk ho; have HB4 := Aside0.mk hb; clear ho hb hg hat)
            go_roundg (l0.length - (i + 1))
            case measure => omega
            case rel =>
              refine ⟨i + 1, by go_num, by omega, Nat.le_refl _, Aside0.mk ?_, HB4, HS2⟩
              have e := HFI.out
              rw [HL.out] at e
              rw [e]; exact HO3.out
    · have hltz : ¬ (i : Int) < (l0.length : Int) := by omega
      obtain rfl : i = l0.length := by omega
      have HO2 : Aside0 (k32.R 32 wo w.heap.size (fun _ => True) u4 l0.flatten) := Aside0.mk (by have := HO.out; rwa [List.take_length] at this)
      have HS2 : Aside0 (∀ l ∈ l0, KSorted day l) := Aside0.mk (by have := HS.out; rwa [List.take_length] at this)
      clear HO HS
      go_wp2_with (go_at_call 43; refine (sortRow HI wo w.heap.size (fun _ => True) u4 l0.flatten HO2.out HFL.out).mono ?_; rintro e w1 ⟨rfl, m, hml, hR, hg, hK, hC⟩)
      rw [Exit.noGoto_ret]
      go_ret2
      exact ⟨_, m, 0, rfl, hR, HB.out.grown hg HB.out.size (Kd.R_base HO2.out), by rw [hml]; exact HFL.out, .inl ⟨HS2.out, rfl, hK, hC⟩⟩
end Go.Proofs.YtdfndbegifdejaaDoor.GD

/-! ### InsR -/
/- The library's insertion sort at a slice of flows: the shelf's contract laid at this program, in the words of the stable sort. -/
namespace Go.Proofs.YtdfndbegifdejaaDoor.GD
set_option linter.unusedVariables false
set_option linter.unusedSimpArgs false
open Go.RowKit Go.Proofs.YtdfndbegifdejaaDoorW.PrintWords Go.Proofs.YtdfndbegifdejaaDoorMine Go.Proofs.YtdfndbegifdejaaDoorStab Go.Proofs Go.Shelf Go.Sort

def insRen : Ren where
  f := fun x => if x = 20 then 67 else x
  t := fun x => if x = 24 then 32 else if x = 25 then 39 else x
  g := fun x => x

theorem insLays : SlLaysF0.n20 Tryd.prog insRen where
  mixed := by kernel_rfl
  f20 := ⟨"slices.insertionSortCmpFunc[payoff/api.Flow]", of_decide_eq_true (by kernel_rfl), Tryd.func67.trans (congrArg some (by kernel_rfl))⟩
  t0 := Tryd.underlying0
  a0 := Tryd.isAgg0
  z0 := Tryd.sizeOf0
  v0 := Tryd.zeroValue0
  t3 := Tryd.underlying3
  a3 := Tryd.isAgg3
  z3 := Tryd.sizeOf3
  v3 := Tryd.zeroValue3
  t4 := Tryd.underlying4
  a4 := Tryd.isAgg4
  z4 := Tryd.sizeOf4
  v4 := Tryd.zeroValue4
  t22 := Tryd.underlying22
  a22 := Tryd.isAgg22
  z22 := Tryd.sizeOf22
  v22 := Tryd.zeroValue22
  t25 := Tryd.underlying39
  a25 := Tryd.isAgg39
  z25 := Tryd.sizeOf39
  v25 := Tryd.zeroValue39

theorem ltOf_day : (ltOf (fun x y : S32 => m3 x.f0 y.f0)) = ltk day := by
  funext x y
  unfold ltOf ltk day
  by_cases h : x.f0 < y.f0
  · rw [decide_eq_true h]
    exact decide_eq_true ((m3_lt _ _).2 h)
  · rw [decide_eq_false h]
    exact decide_eq_false (fun h2 => h ((m3_lt _ _).1 h2))

theorem insAll : InsAll := fun blk off cap d0 w0 R hsz a b d w hd S hab hb => by
  have h := AnyQ.insertionSortCmpFunc_w insLays 3 Tryd.isAgg32 Tryd.sizeOf32 enc32 (fun x y => m3 x.f0 y.f0) 44 #[] blk off cap a b d0 d w0 w (enters_of Tryd.func44 (by kernel_rfl) rfl) (mergeCmp.lays _ _ _ _) R hd.symm S (by rw [ltOf_day]; exact swo_ltk day) hab hb (by omega)
  refine h.mono ?_
  rintro e w' ⟨rfl, hS⟩
  rw [ltOf_day] at hS
  obtain ⟨h1, h2⟩ := insertion_seg (key := day) d a b hab hb
  exact ⟨rfl, _, h1, h2, hS⟩
end Go.Proofs.YtdfndbegifdejaaDoor.GD

/-! ### MrgG -/
/- flow.Merge: what it answers, as a function (its answer is determined); its contract in that form. -/
namespace Go.Proofs.YtdfndbegifdejaaDoor.GD
set_option linter.unusedVariables false
set_option linter.unusedSimpArgs false
open Go.RowKit Go.Proofs.YtdfndbegifdejaaDoorW.PrintWords Go.Proofs.YtdfndbegifdejaaDoorStab
open Classical
theorem mGood_uniq {l : List (List S32)} {a b : List S32} {f g : Int} (h1 : Good l a f) (h2 : Good l b g) : a = b ∧ f = g := by
  rcases h1 with ⟨s1, rfl, k1, c1⟩ | ⟨⟨x, hx, n1⟩, rfl, rfl⟩
  · rcases h2 with ⟨s2, rfl, k2, c2⟩ | ⟨⟨x, hx, n2⟩, rfl, rfl⟩
    · exact ⟨sorted_unique day _ _ k1 k2 (fun k => (c1 k).trans (c2 k).symm), rfl⟩
    · exact absurd (s1 x hx) n2
  · rcases h2 with ⟨s2, rfl, k2, c2⟩ | ⟨_, rfl, rfl⟩
    · exact absurd (s2 x hx) n1
    · exact ⟨rfl, rfl⟩
/-- What Merge answers. -/
noncomputable def flow_Merge.f (l : List (List S32)) : Option (List S32 × Int) :=
  if h : (l.length ≤ 1048576 ∧ l.flatten.length ≤ 1048576) ∧ ∃ p : List S32 × Int, Good l p.1 p.2 then some (Classical.choose h.2) else none
theorem flow_Merge.good {l : List (List S32)} {m : List S32} {f : Int} (h : flow_Merge.f l = some (m, f)) : l.length ≤ 1048576 ∧ l.flatten.length ≤ 1048576 ∧ Good l m f := by
  unfold flow_Merge.f at h
  split at h
  · rename_i h0
    have h1 := Classical.choose_spec h0.2
    rw [Option.some.inj h] at h1
    exact ⟨h0.1.1, h0.1.2, h1⟩
  · cases h
theorem flow_Merge.of_good {l : List (List S32)} {m : List S32} {f : Int} (hw : l.length ≤ 1048576) (hn : l.flatten.length ≤ 1048576) (h : Good l m f) : flow_Merge.f l = some (m, f) := by
  have h0 : (l.length ≤ 1048576 ∧ l.flatten.length ≤ 1048576) ∧ ∃ p : List S32 × Int, Good l p.1 p.2 := ⟨⟨hw, hn⟩, (m, f), h⟩
  unfold flow_Merge.f
  rw [dif_pos h0]
  have h1 := mGood_uniq (Classical.choose_spec h0.2) h
  congr 1
  exact Prod.ext h1.1 h1.2
theorem flow_Merge.callsF (A0 : Option Addr) (c0 : Nat) (l0 : List (List S32)) (r1 : List S32) (r2 : Int) (w : World) (hr0 : Kd.C (Kd.slice 32 k32) w A0 l0.length l0) (hc0 : l0.length ≤ c0) (h : flow_Merge.f l0 = some (r1, r2)) :
    Calls Tryd.prog 24 #[.slice A0 l0.length c0] w fun e w' => ∃ v0_ : Value, e = .returned (.tuple #[v0_, .int .i64 r2]) ∧ Kd.R k32 32 w' w.heap.size (fun _ => True) v0_ r1 ∧ Below w.heap.size w w' := by
  obtain ⟨hw, hn, hg⟩ := flow_Merge.good h
  refine (flow_Merge.calls insAll A0 c0 l0 w hr0 hc0 hw hn).mono ?_
  rintro e w' ⟨v, ts, f, rfl, h1, h2, _, h4⟩
  obtain ⟨rfl, rfl⟩ := mGood_uniq h4 hg
  exact ⟨v, rfl, h1, h2⟩
end Go.Proofs.YtdfndbegifdejaaDoor.GD
