import Derived.Test.YtdfndbegifdejaaFyj
import Derived.Shelf.SlSortCmp.Whole1
import Derived.Shelf.SlSortCmp.NoneTotal
import Derived.Lib.Bytealg
import Derived.Sort.Walk0
section
namespace Go.Proofs.Ytdfndbegifdejaa.PFlowExact
set_option linter.unusedVariables false
set_option linter.unusedSimpArgs false
open Go.RowKit Go.Proofs.YtdfndbegifdejaaW.PrintWords Go.Proofs.YtdfndbegifdejaaW.PrintLast Go.Proofs.YtdfndbegifdejaaW.PrintMore Go.Proofs.YtdfndbegifdejaaMine Go.Proofs Go.Shelf Go.Sort Go.Lib
set_option maxHeartbeats 1000000 in
set_option maxRecDepth 100000 in
theorem cmpString.calls (a b : ByteArray) (w : World) :
    Calls Try.prog 52 #[.string a, .string b] w fun e w' => e = .returned (.int .i64 (Lib.compareBytes a.data.toList b.data.toList)) ∧ w' = w := by
  go_enter Try.func52, Try.ntmps52
  go_wp2
  rw [run_callFunc_extern Try.func65 (by kernel_rfl) (by kernel_rfl) (e := Extern.BytealgCompare.compare) (by kernel_rfl) (by kernel_rfl), Lib.run_compareString]
  simp only [Result.andThen]
  rw [Oper.upon_value]
  go_wp2
  go_ret
  exact ⟨rfl, rfl⟩
def scmp (a b : ByteArray) : Int := Lib.compareBytes a.data.toList b.data.toList
set_option maxHeartbeats 1000000 in
theorem strCompare.calls (a b : ByteArray) (w : World) : Calls Try.prog 37 #[.string a, .string b] w fun e w' => e = .returned (.int .i64 (scmp a b)) ∧ w' = w := by
  go_enter Try.func37, Try.ntmps37
  go_wp2_with (go_at_call 52; refine (cmpString.calls _ _ _).mono ?_; rintro e w' ⟨rfl, rfl⟩)
  go_ret
  exact ⟨rfl, rfl⟩
theorem cmp_less' : ∀ a b : List UInt8, Lib.compareBytes a b = if Op.bytesLess a b = true then -1 else if (a == b) = true then 0 else 1
  | [], [] => by simp [Lib.compareBytes, Op.bytesLess]
  | [], _ :: _ => by simp [Lib.compareBytes, Op.bytesLess]
  | _ :: _, [] => by simp [Lib.compareBytes, Op.bytesLess]
  | x :: a, y :: b => by
    have ih := cmp_less' a b
    rw [Lib.compareBytes, Op.bytesLess]
    by_cases h1 : x < y
    · simp [h1]
    · by_cases h2 : y < x
      · have h3 : x ≠ y := fun e => by subst e; exact h1 h2
        simp [h1, h2, h3]
      · have h3 : x = y := UInt8.le_antisymm (UInt8.not_lt.1 h2) (UInt8.not_lt.1 h1)
        subst h3
        simp [h1, ih]
def sless (a b : ByteArray) : Bool := decide (a.data.toList < b.data.toList)
theorem ltOf_scmp : ltOf scmp = sless := by
  funext a b
  unfold ltOf scmp sless
  rw [cmp_less', bytesLess_eq]
  by_cases h : a.data.toList < b.data.toList
  · simp [h]
  · simp [h]; split <;> omega
theorem sless_ext {a b : ByteArray} (h1 : sless a b = false) (h2 : sless b a = false) : a = b := by
  unfold sless at h1 h2
  have h1' := of_decide_eq_false h1
  have h2' := of_decide_eq_false h2
  exact ByteArray.ext (Array.ext' (List.le_antisymm (List.not_lt.1 h2') (List.not_lt.1 h1')))
theorem swo_sless : SWO sless where
  irrefl a := decide_eq_false (List.lt_irrefl _)
  trans a b c h1 h2 := decide_eq_true (List.lt_trans (of_decide_eq_true h1) (of_decide_eq_true h2))
  ntrans a b c h1 h2 := decide_eq_false (List.not_lt.2 (List.le_trans (List.not_lt.1 (of_decide_eq_false h2)) (List.not_lt.1 (of_decide_eq_false h1))))
section
variable {α : Type} [Inhabited α] {enc : α → Value} {h1 : ∀ x, (enc x).oneCell' = true} {e : Nat} {W : World} {base : Nat} {ok : Nat → Prop} {g cap : Nat} {xs : List α}
theorem scalar_in (hr : (Kd.scalar enc h1).R e W base ok (.slice (some ⟨g, 0, none⟩) xs.length cap) xs) : Holds enc W g 0 xs.toArray ∧ g < W.heap.size := by
  have hown := Kd.own_of_R hr
  rcases hown.2 with ⟨hv, _⟩ | ⟨g', cap', cur, hv, hb, hh, hn, hcm, hcs, ht⟩
  · cases hv
  · cases hv
    refine ⟨fun j hj => ?_, blk_lt hh⟩
    rw [Nat.zero_add]
    refine ⟨?_, blk_frozen hh j⟩
    rw [blk_cell hh j]
    have hj' : j < xs.length := by simpa using hj
    have e1 : cur[j]? = (encs enc xs)[j]? := by
      rw [← ht, List.getElem?_take, if_pos (by omega), Array.getElem?_toList]
    rw [e1, getElem!_pos _ j hj]
    simp [encs, hj']
theorem scalar_out {dk : Array α} {n : Nat} {os : Array Obj} (hr : (Kd.scalar enc h1).R e W base ok (.slice (some ⟨g, 0, none⟩) xs.length cap) xs) (hl : dk.size = xs.length) :
    (Kd.scalar enc h1).R e (sortWorld enc W g 0 n dk os) base ok (.slice (some ⟨g, 0, none⟩) xs.length cap) dk.toList ∧ W.grownBy (sortWorld enc W g 0 n dk os) (some g) := by
  have hown := Kd.own_of_R hr
  have hok := hr.1
  rcases hown.2 with ⟨hv, _⟩ | ⟨g', cap', cur, hv, hb, hh, hn, hcm, hcs, ht⟩
  · cases hv
  · cases hv
    have hlt := blk_lt hh
    have hheap : (sortWorld enc W g 0 n dk os).heap = W.heap.modify g (onCells (putCells enc 0 dk)) ++ os := rfl
    have hsz : (W.heap.modify g (onCells (putCells enc 0 dk))).size = W.heap.size := by simp
    have hg : (sortWorld enc W g 0 n dk os).heap[g]? = some (.cells (putCells enc 0 dk cur) e (0, 0)) := by
      rw [hheap, Array.getElem?_append_left (by rw [hsz]; exact hlt), Array.getElem?_modify, if_pos rfl, hh]
      rfl
    refine ⟨Kd.R_of_own ⟨by simp [encs], .inr ⟨g, cap, _, by simp [hl], hb, hg, by simp [hl]; exact hn, hcm, by simp [putCells, hcs], ?_⟩⟩ hok, ⟨rfl, rfl, rfl, ?_, fun k hk hne => ?_⟩⟩
    · apply List.ext_getElem?
      intro j
      rw [List.getElem?_take]
      by_cases hj : j < dk.size
      · have hjc : j < cur.size := by rw [hcs]; omega
        rw [if_pos (by simp; omega), Array.getElem?_toList]
        simp only [putCells, Array.getElem?_mapIdx, getElem?_pos cur j hjc, Option.map_some]
        rw [if_pos (by simp; exact hj), Nat.sub_zero, getElem!_pos _ j hj]
        simp [encs, hj]
      · rw [if_neg (by simp; omega)]
        symm
        rw [List.getElem?_eq_none_iff]; simp [encs]; omega
    · rw [hheap, Array.size_append, hsz]; omega
    · rw [hheap, Array.getElem?_append_left (by rw [hsz]; exact hk), Array.getElem?_modify, if_neg (fun e1 => hne (by rw [e1]))]
end
theorem sortStrs_none (w : World) : Calls Try.prog 60 #[.slice none 0 0, .func (.func 37) #[] #[]] w fun e w' => e = .returned (.tuple #[]) ∧ w' = w :=
  AnyF.slices_SortFunc_none (P := Try.prog) (ρ := sortStrsRen) { sortStrs with } none 0 _ w
set_option maxHeartbeats 1000000 in
theorem sortStrs_row (W : World) (base : Nat) (ok : Nat → Prop) (v : Value) (xs : List ByteArray) (hr : Kd.string.R 9 W base ok v xs) (hn : xs.length < 4611686018427387904) :
    Calls Try.prog 60 #[v, .func (.func 37) #[] #[]] W fun e w' => e = .returned (.tuple #[]) ∧ ∃ m : List ByteArray, m.length = xs.length ∧ Kd.string.R 9 w' base ok v m ∧ W.grownBy w' v.ownBlock ∧ m.Perm xs ∧ m.Pairwise (fun a b => sless b a = false) := by
  obtain ⟨inner, hown⟩ := Kd.R_own hr
  rcases hown.2 with ⟨rfl, h0⟩ | ⟨g, cap, cur, rfl, _⟩
  · obtain rfl := List.eq_nil_of_length_eq_zero h0
    refine (sortStrs_none W).mono ?_
    rintro e w' ⟨rfl, rfl⟩
    exact ⟨rfl, [], rfl, hr, World.grownBy.refl _ _, List.Perm.refl _, List.Pairwise.nil⟩
  · obtain ⟨hH, hlt⟩ := scalar_in hr
    have hcmp : CmpLays1 Try.prog 37 #[] Value.string scmp g 0 xs.toArray.size W := fun m os dk hs x y =>
      (strCompare.calls x y _).mono fun e w' ⟨h1, h2⟩ => ⟨h1, 0, #[], by rw [h2, grow_empty]; rfl⟩
    have hc := Any.slices_SortFunc sortStrs Value.string (fun _ => rfl) scmp (by rw [ltOf_scmp]; exact swo_sless) 37 #[] g 0 cap xs.toArray W (enters_of Try.func37 (by kernel_rfl) rfl) hcmp hH hlt (by simpa using hn)
    rw [List.size_toArray] at hc
    refine hc.mono ?_
    rintro e w' ⟨rfl, dk, n, os, hp, hso, rfl⟩
    have hl : dk.size = xs.length := by have := hp.1; simpa using this
    obtain ⟨h1, h2⟩ := scalar_out (n := n) (os := os) hr hl
    refine ⟨rfl, dk.toList, by simpa using hl, h1, h2, ?_, ?_⟩
    · have h3 := hp.2.2
      have e1 : dk.extract 0 xs.length = dk := by rw [← hl]; exact Array.extract_size
      have e2 : xs.toArray.extract 0 xs.length = xs.toArray := Array.extract_size
      rw [e1, e2] at h3
      simpa using h3
    · rw [List.pairwise_iff_getElem]
      intro i j hi hj hij
      have := hso i j (Nat.zero_le _) hij (by simp at hj; omega)
      rw [ltOf_scmp, getElem!_pos _ j (by simpa using hj), getElem!_pos _ i (by simpa using hi)] at this
      simpa using this
end Go.Proofs.Ytdfndbegifdejaa.PFlowExact
end
section
namespace Go.Proofs.Ytdfndbegifdejaa.PFlowExact
set_option linter.unusedVariables false
set_option linter.unusedSimpArgs false
open Go.RowKit Go.Proofs.YtdfndbegifdejaaW.PrintWords Go.Sort
def acc (L : List S32) (i : Nat) : S32 := rd_T32 L (i : Int)
theorem acc_get (L : List S32) (i : Nat) (h : i < L.length) : acc L i = L[i] := by simp [acc, rd_T32, h]
theorem acc_set (L : List S32) (i j : Nat) (v : S32) (h : i < L.length) : acc (L.set i v) j = if j = i then v else acc L j := by
 by_cases e : j = i
 ·subst e; rw [if_pos rfl, acc_get _ _ (by simpa using h)]; simp
 ·rw [if_neg e]
  have e2 : ¬ i = j := fun x => e x.symm
  unfold acc rd_T32
  simp only [Int.toNat_natCast, List.getD, List.getElem?_set]
  rw [if_neg e2]
def cmpF (a b : S32) : Int := if a.f0 < b.f0 then -1 else if a.f0 > b.f0 then 1 else if Op.bytesLess a.f1.toList b.f1.toList = true then -1 else if (a.f1.toList == b.f1.toList) = false then 1 else if a.f2 < b.f2 then -1 else if a.f2 > b.f2 then 1 else 0
theorem cmpF_f (a b : S32) : payoffref03_Compare.f a.f0 a.f1 a.f2 b.f0 b.f1 b.f2 = some (cmpF a b) := by
 unfold payoffref03_Compare.f cmpF
 repeat' split
 all_goals rfl
def kless (a b : S32) : Prop := a.f0 < b.f0 ∨ (a.f0 = b.f0 ∧ sless a.f1 b.f1 = true)
def keyEq (a b : S32) : Prop := a.f0 = b.f0 ∧ a.f1 = b.f1
theorem kless_trans {a b c : S32} (h1 : kless a b) (h2 : kless b c) : kless a c := by
 unfold kless at *
 rcases h1 with h1 | ⟨h1, h1'⟩ <;> rcases h2 with h2 | ⟨h2, h2'⟩
 ·left; omega
 ·left; omega
 ·left; omega
 ·exact .inr ⟨by omega, swo_sless.trans _ _ _ h1' h2'⟩
theorem kless_total {a b : S32} (h : ¬ keyEq a b) : kless a b ∨ kless b a := by
 unfold kless keyEq at *
 rcases Int.lt_trichotomy a.f0 b.f0 with h1 | h1 | h1
 ·exact .inl (.inl h1)
 ·by_cases h2 : sless a.f1 b.f1 = true
  ·exact .inl (.inr ⟨h1, h2⟩)
  ·by_cases h3 : sless b.f1 a.f1 = true
   ·exact .inr (.inr ⟨h1.symm, h3⟩)
   ·exact absurd ⟨h1, sless_ext (by simpa using h2) (by simpa using h3)⟩ h
 ·exact .inr (.inl h1)
theorem cmpF_lt {a b : S32} (h : ¬ keyEq a b) : cmpF a b < 0 ↔ kless a b := by
 have e : Op.bytesLess a.f1.toList b.f1.toList = sless a.f1 b.f1 := by rw [bytesLess_eq, ByteArray.toList_eq, ByteArray.toList_eq]; rfl
 unfold cmpF kless
 rw [e]
 by_cases h1 : a.f0 < b.f0
 ·simp [h1]
 ·by_cases h2 : a.f0 > b.f0
  ·rw [if_neg h1, if_pos h2]
   constructor
   ·intro h; omega
   ·rintro (h | ⟨h, _⟩) <;> omega
  ·have h3 : a.f0 = b.f0 := by omega
   rw [if_neg h1, if_neg h2]
   by_cases h4 : sless a.f1 b.f1 = true
   ·simp [h4, h3]
   ·rw [if_neg h4]
    have h5 : (a.f1.toList == b.f1.toList) = false := by
     rw [beq_eq_false_iff_ne]
     intro h6
     refine h ⟨h3, ?_⟩
     rw [ByteArray.toList_eq, ByteArray.toList_eq] at h6
     exact ByteArray.ext (Array.ext' h6)
    rw [if_pos h5]
    simp [h4, h1]
def Dist (L : List S32) : Prop := ∀ p q, p < q → q < L.length → ¬ keyEq (acc L p) (acc L q)
def Pre (i : Nat) (L : List S32) : Prop := ∀ p q, p < i → p < q → q < L.length → kless (acc L p) (acc L q)
theorem Dist.ne {L : List S32} (h : Dist L) {p q : Nat} (hp : p < L.length) (hq : q < L.length) (hpq : p ≠ q) : ¬ keyEq (acc L p) (acc L q) := by
 rcases Nat.lt_or_ge p q with h1 | h1
 ·exact h p q h1 hq
 ·exact fun ⟨h2, h3⟩ => h q p (by omega) hp ⟨h2.symm, h3.symm⟩
def swap2 (L : List S32) (i j : Nat) : List S32 := (L.set i (acc L j)).set j (acc L i)
theorem swap2_len (L : List S32) (i j : Nat) : (swap2 L i j).length = L.length := by simp [swap2]
theorem swap2_acc (L : List S32) (i j t : Nat) (hi : i < L.length) (hj : j < L.length) : acc (swap2 L i j) t = acc L (if t = j then i else if t = i then j else t) := by
 unfold swap2
 rw [acc_set _ _ _ _ (by simpa using hj)]
 by_cases h1 : t = j
 ·rw [if_pos h1, if_pos h1]
 ·rw [if_neg h1, if_neg h1, acc_set _ _ _ _ hi]
  by_cases h2 : t = i
  ·rw [if_pos h2, if_pos h2]
  ·rw [if_neg h2, if_neg h2]
def Same (L L' : List S32) : Prop := L'.length = L.length ∧ ∀ x, (∃ p, p < L'.length ∧ acc L' p = x) ↔ (∃ p, p < L.length ∧ acc L p = x)
theorem Same.refl (L : List S32) : Same L L := ⟨rfl, fun _ => Iff.rfl⟩
theorem Same.trans {A B C : List S32} (h : Same A B) (h' : Same B C) : Same A C := ⟨h'.1.trans h.1, fun x => (h'.2 x).trans (h.2 x)⟩
theorem swap2_same (L : List S32) (i j : Nat) (hi : i < L.length) (hj : j < L.length) : Same L (swap2 L i j) := by
 refine ⟨swap2_len L i j, fun x => ⟨?_, ?_⟩⟩
 ·rintro ⟨p, hp, rfl⟩
  rw [swap2_len] at hp
  rw [swap2_acc L i j p hi hj]
  refine ⟨_, ?_, rfl⟩
  split
  ·exact hi
  ·split
   ·exact hj
   ·exact hp
 ·rintro ⟨p, hp, rfl⟩
  refine ⟨if p = j then i else if p = i then j else p, ?_, ?_⟩
  ·rw [swap2_len]; split
   ·exact hi
   ·split
    ·exact hj
    ·exact hp
  ·rw [swap2_acc L i j _ hi hj]
   congr 1
   by_cases h1 : p = j
   ·subst h1; rw [if_pos rfl]; split <;> simp_all
   ·rw [if_neg h1]
    by_cases h2 : p = i
    ·subst h2; rw [if_pos rfl]; simp
    ·rw [if_neg h2, if_neg h1, if_neg h2]
theorem swap2_dist (L : List S32) (i j : Nat) (hi : i < L.length) (hj : j < L.length) (h : Dist L) : Dist (swap2 L i j) := by
 intro p q hpq hq
 rw [swap2_len] at hq
 rw [swap2_acc L i j p hi hj, swap2_acc L i j q hi hj]
 refine h.ne ?_ ?_ ?_
 ·split
  ·exact hi
  ·split
   ·exact hj
   ·omega
 ·split
  ·exact hi
  ·split
   ·exact hj
   ·exact hq
 ·intro e
  (repeat' split at e) <;> omega
theorem w64 (i : Nat) (h : i ≤ 4398046511104) : wrap64 ((i : Int) + 1) = ((i + 1 : Nat) : Int) := by unfold wrap64; omega
theorem exch_in (i : Nat) : ∀ (d j : Nat) (L : List S32), L.length - j = d → i < j → j ≤ L.length → L.length ≤ 4398046511104 → Dist L → Pre i L → (∀ q, i < q → q < j → kless (acc L i) (acc L q)) →
  ∃ K L', Same L L' ∧ Dist L' ∧ Pre (i + 1) L' ∧ ∀ k, payoffref03_sums.l3 (k + K) L (i : Int) (j : Int) = payoffref03_sums.l2 k L' ((i + 1 : Nat) : Int) := by
 intro d
 induction d with
 | zero =>
  intro j L hd hij hj hn hD hP hI
  obtain rfl : j = L.length := by omega
  refine ⟨1, L, Same.refl L, hD, fun p q hp hpq hq => ?_, fun k => ?_⟩
  ·by_cases e : p = i
   ·subst e; exact hI q hpq hq
   ·exact hP p q (by omega) hpq hq
  ·simp only [payoffref03_sums.l3]
   rw [if_neg (by omega), w64 i (by omega)]
 | succ d ih =>
  intro j L hd hij hj hn hD hP hI
  have hjl : j < L.length := by omega
  have hil : i < L.length := by omega
  have hne : ¬ keyEq (acc L j) (acc L i) := hD.ne hjl hil (by omega)
  by_cases hc : cmpF (acc L j) (acc L i) < 0
  ·have hk := (cmpF_lt hne).1 hc
   obtain ⟨K, L', h1, h2, h3, h4⟩ := ih (j + 1) (swap2 L i j) (by rw [swap2_len]; omega) (by omega) (by rw [swap2_len]; omega) (by rw [swap2_len]; exact hn) (swap2_dist L i j hil hjl hD)
    (fun p q hp hpq hq => by
     rw [swap2_len] at hq
     rw [swap2_acc L i j p hil hjl, swap2_acc L i j q hil hjl, if_neg (by omega), if_neg (by omega)]
     refine hP p _ hp ?_ ?_
     ·split <;> (try split) <;> omega
     ·split <;> (try split) <;> omega)
    (fun q hiq hqj => by
     rw [swap2_acc L i j i hil hjl, swap2_acc L i j q hil hjl, if_neg (by omega), if_pos rfl]
     by_cases e : q = j
     ·rw [if_pos e]; exact hk
     ·rw [if_neg e, if_neg (by omega)]
      exact kless_trans hk (hI q hiq (by omega)))
   refine ⟨K + 1, L', (swap2_same L i j hil hjl).trans h1, h2, h3, fun k => ?_⟩
   rw [← Nat.add_assoc, ← h4 k]
   simp only [payoffref03_sums.l3]
   rw [if_pos (by omega), if_pos (by omega), if_pos (by omega), if_pos (by omega)]
   have e1 : payoffref03_Compare.f (rd_T32 L (j : Int)).f0 (rd_T32 L (j : Int)).f1 (rd_T32 L (j : Int)).f2 (rd_T32 L (i : Int)).f0 (rd_T32 L (i : Int)).f1 (rd_T32 L (i : Int)).f2 = some (cmpF (acc L j) (acc L i)) := cmpF_f (acc L j) (acc L i)
   rw [e1]
   simp only [Option.bind_some, Int.toNat_natCast]
   rw [if_pos hc, w64 j (by omega)]
   rfl
  ·have hk : kless (acc L i) (acc L j) := by
    rcases kless_total hne with h | h
    ·exact absurd ((cmpF_lt hne).2 h) hc
    ·exact h
   obtain ⟨K, L', h1, h2, h3, h4⟩ := ih (j + 1) L (by omega) (by omega) (by omega) hn hD hP (fun q hiq hqj => by
     by_cases e : q = j
     ·subst e; exact hk
     ·exact hI q hiq (by omega))
   refine ⟨K + 1, L', h1, h2, h3, fun k => ?_⟩
   rw [← Nat.add_assoc, ← h4 k]
   simp only [payoffref03_sums.l3]
   rw [if_pos (by omega), if_pos (by omega), if_pos (by omega), if_pos (by omega)]
   have e1 : payoffref03_Compare.f (rd_T32 L (j : Int)).f0 (rd_T32 L (j : Int)).f1 (rd_T32 L (j : Int)).f2 (rd_T32 L (i : Int)).f0 (rd_T32 L (i : Int)).f1 (rd_T32 L (i : Int)).f2 = some (cmpF (acc L j) (acc L i)) := cmpF_f (acc L j) (acc L i)
   rw [e1]
   simp only [Option.bind_some]
   rw [if_neg hc, w64 j (by omega)]
theorem exch : ∀ (d i : Nat) (L : List S32), L.length - i = d → i ≤ L.length → L.length ≤ 4398046511104 → Dist L → Pre i L →
  ∃ K L', Same L L' ∧ Pre L'.length L' ∧ ∀ k, payoffref03_sums.l2 (k + K) L (i : Int) = some (L', true) := by
 intro d
 induction d with
 | zero =>
  intro i L hd hi hn hD hP
  obtain rfl : i = L.length := by omega
  refine ⟨1, L, Same.refl L, hP, fun k => ?_⟩
  simp only [payoffref03_sums.l2]
  rw [if_neg (by omega)]
 | succ d ih =>
  intro i L hd hi hn hD hP
  obtain ⟨K, L', h1, h2, h3, h4⟩ := exch_in i (L.length - (i + 1)) (i + 1) L rfl (by omega) (by omega) hn hD hP (fun q h1 h2 => by omega)
  obtain ⟨K2, L2, g1, g2, g3⟩ := ih (i + 1) L' (by have := h1.1; omega) (by have := h1.1; omega) (by have := h1.1; omega) h2 h3
  refine ⟨K2 + K + 1, L2, h1.trans g1, g2, fun k => ?_⟩
  rw [← Nat.add_assoc]
  simp only [payoffref03_sums.l2]
  rw [if_pos (by omega), w64 i (by omega), ← Nat.add_assoc, h4, g3]
end Go.Proofs.Ytdfndbegifdejaa.PFlowExact
end
