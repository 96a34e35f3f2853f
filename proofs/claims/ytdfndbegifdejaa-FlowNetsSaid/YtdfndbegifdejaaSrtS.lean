/- The library's sorting of strings by strings.Compare, of a row of one's own: the shelf's contract laid at this program. -/
import Derived.Test.YtdfndbegifdejaaRowS
import Derived.Test.YtdfndbegifdejaaLaysR
import Derived.Shelf.SlSortCmp.Whole1
import Derived.Shelf.SlSortCmp.NoneTotal
import Derived.Lib.Bytealg
import Derived.Sort.Walk0
import Derived.Test.YtdfndbegifdejaaPFlowExactx0
namespace Go.Proofs.Ytdfndbegifdejaa.PFlowExact
set_option linter.unusedVariables false
set_option linter.unusedSimpArgs false
open Go.RowKit Go.Proofs.YtdfndbegifdejaaW.PrintWords Go.Proofs.YtdfndbegifdejaaW.PrintLast Go.Proofs.YtdfndbegifdejaaW.PrintMore Go.Proofs.YtdfndbegifdejaaMine Go.Proofs Go.Shelf Go.Sort Go.Lib

set_option maxHeartbeats 1000000 in
set_option maxRecDepth 100000 in
theorem cmpString.calls (a b : ByteArray) (w : World) :
    Calls Try.prog 52 #[.string a, .string b] w fun e w' => e = .returned (.int .i64 (Lib.compareBytes a.data.toList b.data.toList)) ∧ w' = w := by
  go_enter Try.func52, Try.ntmps52
  go_wp2
  rw [run_callFunc_extern Try.func65 (by kernel_rfl) (by kernel_rfl) (e := Extern.BytealgCompare.compare) (by kernel_rfl) (by kernel_rfl), Lib.run_compareString]
  simp only [Result.andThen]
  rw [Oper.upon_value]
  go_wp2
  go_ret
  exact ⟨rfl, rfl⟩
def scmp (a b : ByteArray) : Int := Lib.compareBytes a.data.toList b.data.toList
set_option maxHeartbeats 1000000 in
theorem strCompare.calls (a b : ByteArray) (w : World) : Calls Try.prog 37 #[.string a, .string b] w fun e w' => e = .returned (.int .i64 (scmp a b)) ∧ w' = w := by
  go_enter Try.func37, Try.ntmps37
  go_wp2_with (go_at_call 52; refine (cmpString.calls _ _ _).mono ?_; rintro e w' ⟨rfl, rfl⟩)
  go_ret
  exact ⟨rfl, rfl⟩

theorem cmp_less' : ∀ a b : List UInt8, Lib.compareBytes a b = if Op.bytesLess a b = true then -1 else if (a == b) = true then 0 else 1
  | [], [] => by simp [Lib.compareBytes, Op.bytesLess]
  | [], _ :: _ => by simp [Lib.compareBytes, Op.bytesLess]
  | _ :: _, [] => by simp [Lib.compareBytes, Op.bytesLess]
  | x :: a, y :: b => by
    have ih := cmp_less' a b
    rw [Lib.compareBytes, Op.bytesLess]
    by_cases h1 : x < y
    · simp [h1]
    · by_cases h2 : y < x
      · have h3 : x ≠ y := fun e => by subst e; exact h1 h2
        simp [h1, h2, h3]
      · have h3 : x = y := UInt8.le_antisymm (UInt8.not_lt.1 h2) (UInt8.not_lt.1 h1)
        subst h3
        simp [h1, ih]
/-- The order of strings. -/
def sless (a b : ByteArray) : Bool := decide (a.data.toList < b.data.toList)
theorem ltOf_scmp : ltOf scmp = sless := by
  funext a b
  unfold ltOf scmp sless
  rw [cmp_less', bytesLess_eq]
  by_cases h : a.data.toList < b.data.toList
  · simp [h]
  · simp [h]; split <;> omega
theorem sless_ext {a b : ByteArray} (h1 : sless a b = false) (h2 : sless b a = false) : a = b := by
  unfold sless at h1 h2
  have h1' := of_decide_eq_false h1
  have h2' := of_decide_eq_false h2
  exact ByteArray.ext (Array.ext' (List.le_antisymm (List.not_lt.1 h2') (List.not_lt.1 h1')))
theorem swo_sless : SWO sless where
  irrefl a := decide_eq_false (List.lt_irrefl _)
  trans a b c h1 h2 := decide_eq_true (List.lt_trans (of_decide_eq_true h1) (of_decide_eq_true h2))
  ntrans a b c h1 h2 := decide_eq_false (List.not_lt.2 (List.le_trans (List.not_lt.1 (of_decide_eq_false h2)) (List.not_lt.1 (of_decide_eq_false h1))))

section
variable {α : Type} [Inhabited α] {enc : α → Value} {h1 : ∀ x, (enc x).oneCell' = true} {e : Nat} {W : World} {base : Nat} {ok : Nat → Prop} {g cap : Nat} {xs : List α}
theorem scalar_in (hr : (Kd.scalar enc h1).R e W base ok (.slice (some ⟨g, 0, none⟩) xs.length cap) xs) : Holds enc W g 0 xs.toArray ∧ g < W.heap.size := by
  have hown := Kd.own_of_R hr
  rcases hown.2 with ⟨hv, _⟩ | ⟨g', cap', cur, hv, hb, hh, hn, hcm, hcs, ht⟩
  · cases hv
  · cases hv
    refine ⟨fun j hj => ?_, blk_lt hh⟩
    rw [Nat.zero_add]
    refine ⟨?_, blk_frozen hh j⟩
    rw [blk_cell hh j]
    have hj' : j < xs.length := by simpa using hj
    have e1 : cur[j]? = (encs enc xs)[j]? := by
      rw [← ht, List.getElem?_take, if_pos (by omega), Array.getElem?_toList]
    rw [e1, getElem!_pos _ j hj]
    simp [encs, hj']
theorem scalar_out {dk : Array α} {n : Nat} {os : Array Obj} (hr : (Kd.scalar enc h1).R e W base ok (.slice (some ⟨g, 0, none⟩) xs.length cap) xs) (hl : dk.size = xs.length) :
    (Kd.scalar enc h1).R e (sortWorld enc W g 0 n dk os) base ok (.slice (some ⟨g, 0, none⟩) xs.length cap) dk.toList ∧ W.grownBy (sortWorld enc W g 0 n dk os) (some g) := by
  have hown := Kd.own_of_R hr
  have hok := hr.1
  rcases hown.2 with ⟨hv, _⟩ | ⟨g', cap', cur, hv, hb, hh, hn, hcm, hcs, ht⟩
  · cases hv
  · cases hv
    have hlt := blk_lt hh
    have hheap : (sortWorld enc W g 0 n dk os).heap = W.heap.modify g (onCells (putCells enc 0 dk)) ++ os := rfl
    have hsz : (W.heap.modify g (onCells (putCells enc 0 dk))).size = W.heap.size := by simp
    have hg : (sortWorld enc W g 0 n dk os).heap[g]? = some (.cells (putCells enc 0 dk cur) e (0, 0)) := by
      rw [hheap, Array.getElem?_append_left (by rw [hsz]; exact hlt), Array.getElem?_modify, if_pos rfl, hh]
      rfl
    refine ⟨Kd.R_of_own ⟨by simp [encs], .inr ⟨g, cap, _, by simp [hl], hb, hg, by simp [hl]; exact hn, hcm, by simp [putCells, hcs], ?_⟩⟩ hok, ⟨rfl, rfl, rfl, ?_, fun k hk hne => ?_⟩⟩
    · apply List.ext_getElem?
      intro j
      rw [List.getElem?_take]
      by_cases hj : j < dk.size
      · have hjc : j < cur.size := by rw [hcs]; omega
        rw [if_pos (by simp; omega), Array.getElem?_toList]
        simp only [putCells, Array.getElem?_mapIdx, getElem?_pos cur j hjc, Option.map_some]
        rw [if_pos (by simp; exact hj), Nat.sub_zero, getElem!_pos _ j hj]
        simp [encs, hj]
      · rw [if_neg (by simp; omega)]
        symm
        rw [List.getElem?_eq_none_iff]; simp [encs]; omega
    · rw [hheap, Array.size_append, hsz]; omega
    · rw [hheap, Array.getElem?_append_left (by rw [hsz]; exact hk), Array.getElem?_modify, if_neg (fun e1 => hne (by rw [e1]))]
end

theorem sortStrs_none (w : World) : Calls Try.prog 60 #[.slice none 0 0, .func (.func 37) #[] #[]] w fun e w' => e = .returned (.tuple #[]) ∧ w' = w :=
  AnyF.slices_SortFunc_none (P := Try.prog) (ρ := sortStrsRen) { sortStrs with } none 0 _ w

set_option maxHeartbeats 1000000 in
theorem sortStrs_row (W : World) (base : Nat) (ok : Nat → Prop) (v : Value) (xs : List ByteArray) (hr : Kd.string.R 9 W base ok v xs) (hn : xs.length < 4611686018427387904) :
    Calls Try.prog 60 #[v, .func (.func 37) #[] #[]] W fun e w' => e = .returned (.tuple #[]) ∧ ∃ m : List ByteArray, m.length = xs.length ∧ Kd.string.R 9 w' base ok v m ∧ W.grownBy w' v.ownBlock ∧ m.Perm xs ∧ m.Pairwise (fun a b => sless b a = false) := by
  obtain ⟨inner, hown⟩ := Kd.R_own hr
  rcases hown.2 with ⟨rfl, h0⟩ | ⟨g, cap, cur, rfl, _⟩
  · obtain rfl := List.eq_nil_of_length_eq_zero h0
    refine (sortStrs_none W).mono ?_
    rintro e w' ⟨rfl, rfl⟩
    exact ⟨rfl, [], rfl, hr, World.grownBy.refl _ _, List.Perm.refl _, List.Pairwise.nil⟩
  · obtain ⟨hH, hlt⟩ := scalar_in hr
    have hcmp : CmpLays1 Try.prog 37 #[] Value.string scmp g 0 xs.toArray.size W := fun m os dk hs x y =>
      (strCompare.calls x y _).mono fun e w' ⟨h1, h2⟩ => ⟨h1, 0, #[], by rw [h2, grow_empty]; rfl⟩
    have hc := Any.slices_SortFunc sortStrs Value.string (fun _ => rfl) scmp (by rw [ltOf_scmp]; exact swo_sless) 37 #[] g 0 cap xs.toArray W (enters_of Try.func37 (by kernel_rfl) rfl) hcmp hH hlt (by simpa using hn)
    rw [List.size_toArray] at hc
    refine hc.mono ?_
    rintro e w' ⟨rfl, dk, n, os, hp, hso, rfl⟩
    have hl : dk.size = xs.length := by have := hp.1; simpa using this
    obtain ⟨h1, h2⟩ := scalar_out (n := n) (os := os) hr hl
    refine ⟨rfl, dk.toList, by simpa using hl, h1, h2, ?_, ?_⟩
    · have h3 := hp.2.2
      have e1 : dk.extract 0 xs.length = dk := by rw [← hl]; exact Array.extract_size
      have e2 : xs.toArray.extract 0 xs.length = xs.toArray := Array.extract_size
      rw [e1, e2] at h3
      simpa using h3
    · rw [List.pairwise_iff_getElem]
      intro i j hi hj hij
      have := hso i j (Nat.zero_le _) hij (by simp at hj; omega)
      rw [ltOf_scmp, getElem!_pos _ j (by simpa using hj), getElem!_pos _ i (by simpa using hi)] at this
      simpa using this
end Go.Proofs.Ytdfndbegifdejaa.PFlowExact
