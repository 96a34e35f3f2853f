/- Merged: StabP, SwapR, RowS, LaysR, SrtS. -/
import Derived.Sort.WalkA
import Derived.Sort.LotA
import Derived.Shelf.SlSortCmp.KitK
import Derived.Sort.WalkB2
import Derived.Sort.WalkB12
import Derived.Deep.LoopGhost
import Derived.Test.YtdfndbegifdejaaDoorChecked
import Derived.Test.YtdfndbegifdejaaDoorRmy
import Derived.Shelf.SlLaysF
import Derived.Shelf.SlLaysF0
import Derived.Shelf.SlSortCmp.Whole1
import Derived.Shelf.SlSortCmp.NoneTotal
import Derived.Lib.Bytealg
import Derived.Sort.Walk0
import Derived.Test.YtdfndbegifdejaaDoorGDx0
/-! ### StabP -/
/- Stable sorting of an array by a whole number: the plain laws behind the library's stable sort (no program in sight). -/
namespace Go.Proofs.YtdfndbegifdejaaDoorStab
set_option linter.unusedSectionVars false
set_option linter.unusedVariables false
set_option linter.unusedSimpArgs false
open Go.Sort

section
variable {α : Type} (key : α → Int)

def KSorted (l : List α) : Prop := l.Pairwise (fun x y => key x ≤ key y)
def Cls (k : Int) (l : List α) : List α := l.filter (fun x => decide (key x = k))

theorem cls_append (k : Int) (a b : List α) : Cls key k (a ++ b) = Cls key k a ++ Cls key k b := List.filter_append ..
theorem mem_cls {k : Int} {x : α} {l : List α} : x ∈ Cls key k l ↔ x ∈ l ∧ key x = k := by simp [Cls]
theorem mem_of_cls {a b : List α} (h : ∀ k, Cls key k a = Cls key k b) {x : α} (hx : x ∈ a) : x ∈ b := by
  have h1 : x ∈ Cls key (key x) a := (mem_cls key).2 ⟨hx, rfl⟩
  rw [h] at h1
  exact ((mem_cls key).1 h1).1
theorem cls_nil_of {k : Int} {l : List α} (h : ∀ x ∈ l, key x ≠ k) : Cls key k l = [] := by
  unfold Cls; exact List.filter_eq_nil_iff.2 fun x hx => by simpa using h x hx
/-- Two neighbours, each of the second ahead of each of the first: their exchange turns no class. -/
theorem cls_swap (k : Int) (X Y : List α) (h : ∀ x ∈ X, ∀ y ∈ Y, key y < key x) : Cls key k (Y ++ X) = Cls key k (X ++ Y) := by
  rw [cls_append, cls_append]
  by_cases hy : ∃ y ∈ Y, key y = k
  · obtain ⟨y, hy, rfl⟩ := hy
    rw [cls_nil_of key (l := X) (fun x hx he => by have := h x hx y hy; omega)]
    simp
  · rw [cls_nil_of key (l := Y) (fun y h1 he => hy ⟨y, h1, he⟩)]
    simp

/-- A sorted list is told by its classes. -/
theorem sorted_unique : ∀ (a b : List α), KSorted key a → KSorted key b → (∀ k, Cls key k a = Cls key k b) → a = b
  | [], [], _, _, _ => rfl
  | [], y :: b, _, _, h => absurd (mem_of_cls key (fun k => (h k).symm) (x := y) (by simp)) (by simp)
  | x :: a, [], _, _, h => absurd (mem_of_cls key h (x := x) (by simp)) (by simp)
  | x :: a, y :: b, ha, hb, h => by
    have ha' := List.pairwise_cons.1 ha
    have hb' := List.pairwise_cons.1 hb
    have h1 : key y ≤ key x := by
      rcases List.mem_cons.1 (mem_of_cls key h (x := x) (by simp)) with rfl | hm
      · exact Int.le_refl _
      · exact hb'.1 x hm
    have h2 : key x ≤ key y := by
      rcases List.mem_cons.1 (mem_of_cls key (fun k => (h k).symm) (x := y) (by simp)) with rfl | hm
      · exact Int.le_refl _
      · exact ha'.1 y hm
    have h3 : key x = key y := by omega
    have h4 := h (key x)
    have e1 : Cls key (key x) (x :: a) = x :: Cls key (key x) a := by simp [Cls]
    have e2 : Cls key (key x) (y :: b) = y :: Cls key (key x) b := by simp [Cls, h3]
    rw [e1, e2] at h4
    injection h4 with h5 h6
    subst h5
    refine congrArg (x :: ·) (sorted_unique a b ha'.2 hb'.2 fun k => ?_)
    by_cases hk : key x = k
    · subst hk; exact h6
    · have := h k
      have e3 : Cls key k (x :: a) = Cls key k a := by simp [Cls, hk]
      have e4 : Cls key k (x :: b) = Cls key k b := by simp [Cls, hk]
      rw [e3, e4] at this; exact this
end

section
variable {α : Type} [Inhabited α]

/-- What stands at the places a, .., b - 1. -/
def slc (d : Array α) (a b : Nat) : List α := (List.range' a (b - a)).map (fun t => d[t]!)

theorem slc_shift (d d' : Array α) (p q n : Nat) (h : ∀ i, i < n → d'[p + i]! = d[q + i]!) : slc d' p (p + n) = slc d q (q + n) := by
  unfold slc
  rw [Nat.add_sub_cancel_left, Nat.add_sub_cancel_left, List.range'_eq_map_range, List.range'_eq_map_range, List.map_map, List.map_map]
  exact List.map_congr_left fun i hi => h i (List.mem_range.1 hi)
theorem slc_congr (d d' : Array α) (a b : Nat) (h : ∀ t, a ≤ t → t < b → d'[t]! = d[t]!) : slc d' a b = slc d a b := by
  unfold slc
  refine List.map_congr_left fun t ht => ?_
  have := List.mem_range'_1.1 ht
  exact h t this.1 (by omega)
theorem slc_append (d : Array α) (a m b : Nat) (h1 : a ≤ m) (h2 : m ≤ b) : slc d a b = slc d a m ++ slc d m b := by
  unfold slc
  rw [← List.map_append]
  have := @List.range'_append_1 a (m - a) (b - m)
  rw [show a + (m - a) = m by omega, show m - a + (b - m) = b - a by omega] at this
  rw [this]
theorem mem_slc {d : Array α} {a b : Nat} {x : α} : x ∈ slc d a b ↔ ∃ t, a ≤ t ∧ t < b ∧ d[t]! = x := by
  unfold slc
  rw [List.mem_map]
  constructor
  · rintro ⟨t, ht, rfl⟩
    have := List.mem_range'_1.1 ht
    exact ⟨t, this.1, by omega, rfl⟩
  · rintro ⟨t, h1, h2, rfl⟩
    exact ⟨t, List.mem_range'_1.2 ⟨h1, by omega⟩, rfl⟩
theorem slc_all (d : Array α) : slc d 0 d.size = d.toList := by
  unfold slc
  rw [Nat.sub_zero, ← List.range_eq_range']
  apply List.ext_getElem
  · simp
  · intro i h1 h2
    simp at h1 h2 ⊢
    simp [h1]
theorem slc_nil (d : Array α) (a : Nat) : slc d a a = [] := by simp [slc]

/-- The places a, .., b - 1 are put in order, no class turned; all else is as it was. -/
structure Seg (key : α → Int) (a b : Nat) (d d' : Array α) : Prop where
  size : d'.size = d.size
  out : ∀ t, (t < a ∨ b ≤ t) → d'[t]! = d[t]!
  cls : ∀ k, Cls key k (slc d' a b) = Cls key k (slc d a b)

def Srt (key : α → Int) (a b : Nat) (d : Array α) : Prop := ∀ i j, a ≤ i → i ≤ j → j < b → key d[i]! ≤ key d[j]!

variable {key : α → Int} {a b m : Nat} {d d' d'' : Array α}
theorem Seg.refl : Seg key a b d d := ⟨rfl, fun _ _ => rfl, fun _ => rfl⟩
theorem Seg.trans (h : Seg key a b d d') (h' : Seg key a b d' d'') : Seg key a b d d'' :=
  ⟨h'.size.trans h.size, fun t ht => (h'.out t ht).trans (h.out t ht), fun k => (h'.cls k).trans (h.cls k)⟩
theorem Seg.widen (h : Seg key a b d d') (a' b' : Nat) (h1 : a' ≤ a) (h2 : a ≤ b) (h3 : b ≤ b') : Seg key a' b' d d' := by
  refine ⟨h.size, fun t ht => h.out t (by omega), fun k => ?_⟩
  rw [slc_append d' a' a b' h1 (by omega), slc_append d' a b b' h2 h3, slc_append d a' a b' h1 (by omega), slc_append d a b b' h2 h3,
    slc_congr d d' a' a (fun t _ ht => h.out t (.inl ht)), slc_congr d d' b b' (fun t ht _ => h.out t (.inr ht))]
  simp only [cls_append, h.cls]
theorem Seg.mem (h : Seg key a b d d') {i : Nat} (h1 : a ≤ i) (h2 : i < b) : ∃ t, a ≤ t ∧ t < b ∧ d'[i]! = d[t]! := by
  have := mem_of_cls key h.cls (mem_slc.2 ⟨i, h1, h2, rfl⟩)
  obtain ⟨t, h3, h4, h5⟩ := mem_slc.1 this
  exact ⟨t, h3, h4, h5.symm⟩
theorem Srt.mono (h : Srt key a b d) (a' b' : Nat) (h1 : a ≤ a') (h2 : b' ≤ b) : Srt key a' b' d := fun i j hi hij hj => h i j (by omega) hij (by omega)
theorem Srt.congr (h : Srt key a b d) (e : ∀ t, a ≤ t → t < b → d'[t]! = d[t]!) : Srt key a b d' := fun i j hi hij hj => by
  rw [e i hi (by omega), e j (by omega) hj]; exact h i j hi hij hj
theorem Srt.shift (n : Nat) (p q : Nat) (h : Srt key q (q + n) d) (e : ∀ i, i < n → d'[p + i]! = d[q + i]!) : Srt key p (p + n) d' := fun i j hi hij hj => by
  have h1 := e (i - p) (by omega)
  have h2 := e (j - p) (by omega)
  rw [show p + (i - p) = i by omega] at h1
  rw [show p + (j - p) = j by omega] at h2
  rw [h1, h2]
  exact h _ _ (by omega) (by omega) (by omega)
theorem Srt.join (h1 : Srt key a m d) (h2 : Srt key m b d) (hx : ∀ i j, a ≤ i → i < m → m ≤ j → j < b → key d[i]! ≤ key d[j]!) : Srt key a b d := fun i j hi hij hj => by
  by_cases c1 : j < m
  · exact h1 i j hi hij c1
  · by_cases c2 : m ≤ i
    · exact h2 i j c2 hij hj
    · exact hx i j hi (by omega) (by omega) hj
theorem ksorted_slc (h : Srt key a b d) : KSorted key (slc d a b) := by
  unfold KSorted slc
  rw [List.pairwise_map]
  refine List.Pairwise.imp_of_mem ?_ (List.pairwise_lt_range' (s := a) (n := b - a) (step := 1) )
  intro x y hx hy hxy
  have h1 := List.mem_range'_1.1 hx
  have h2 := List.mem_range'_1.1 hy
  exact h x y h1.1 (by omega) (by omega)

/-- Behind a rotation of [l, m) and [m, r): which place of before stands at t. -/
def rotI (l m r t : Nat) : Nat := if t < l then t else if t < l + (r - m) then m + (t - l) else if t < r then l + (t - l - (r - m)) else t
theorem rotI_in1 {l m r i : Nat} (hi : i < r - m) : rotI l m r (l + i) = m + i := by
  unfold rotI; rw [if_neg (by omega), if_pos (by omega)]; omega
theorem rotI_in2 {l m r i : Nat} (hl : l ≤ m) (hm : m ≤ r) (hi : i < m - l) : rotI l m r (l + (r - m) + i) = l + i := by
  unfold rotI; rw [if_neg (by omega), if_neg (by omega), if_pos (by omega)]; omega
theorem rotI_out {l m r t : Nat} (hl : l ≤ m) (hm : m ≤ r) (h : t < l ∨ r ≤ t) : rotI l m r t = t := by
  unfold rotI
  by_cases c : t < l
  · rw [if_pos c]
  · rw [if_neg c, if_neg (by omega), if_neg (by omega)]

structure Rot (l m r : Nat) (d d' : Array α) : Prop where
  size : d'.size = d.size
  at_ : ∀ t, d'[t]! = d[rotI l m r t]!

variable {l r : Nat}
theorem Rot.seg (h : Rot l m r d d') (hl : l ≤ m) (hm : m ≤ r) (hk : ∀ i j, l ≤ i → i < m → m ≤ j → j < r → key d[j]! < key d[i]!) : Seg key l r d d' := by
  refine ⟨h.size, fun t ht => by rw [h.at_, rotI_out hl hm ht], fun k => ?_⟩
  have e1 := slc_shift d d' l m (r - m) (fun i hi => by rw [h.at_, rotI_in1 hi])
  have e2 := slc_shift d d' (l + (r - m)) l (m - l) (fun i hi => by rw [h.at_, rotI_in2 hl hm hi])
  rw [show m + (r - m) = r by omega] at e1
  rw [show l + (r - m) + (m - l) = r by omega, show l + (m - l) = m by omega] at e2
  rw [slc_append d' l (l + (r - m)) r (by omega) (by omega), e1, e2, slc_append d l m r hl hm]
  refine cls_swap key k _ _ fun x hx y hy => ?_
  obtain ⟨i, h1, h2, rfl⟩ := mem_slc.1 hx
  obtain ⟨j, h3, h4, rfl⟩ := mem_slc.1 hy
  exact hk i j h1 h2 h3 h4

theorem Rot.none (d : Array α) (l r : Nat) (h : l ≤ r) : Rot l l r d d ∧ Rot l r r d d := by
  refine ⟨⟨rfl, fun t => ?_⟩, ⟨rfl, fun t => ?_⟩⟩
  · congr 1; unfold rotI; split <;> (try split) <;> (try split) <;> omega
  · congr 1; unfold rotI; split <;> (try split) <;> (try split) <;> omega

/-! ### the insertion sort keeps the classes -/
theorem swap_seg (d : Array α) (j : Nat) (hj : j + 1 < d.size) (hk : key d[j + 1]! < key d[j]!) : Seg key j (j + 2) d (swp d (j + 1) j) := by
  have h : Rot j (j + 1) (j + 2) d (swp d (j + 1) j) := ⟨size_swp _ _ _, fun t => by
    rw [swp_get d hj (by omega)]
    unfold rotI
    by_cases h1 : t = j
    · subst h1; rw [if_pos rfl, if_neg (by omega), if_pos (by omega)]; congr 1; omega
    · rw [if_neg h1]
      by_cases h2 : t = j + 1
      · subst h2; rw [if_pos rfl, if_neg (by omega), if_neg (by omega), if_pos (by omega)]; congr 1; omega
      · rw [if_neg h2]; congr 1; split <;> (try split) <;> (try split) <;> omega⟩
  exact h.seg (by omega) (by omega) fun i k h1 h2 h3 h4 => by
    obtain rfl : i = j := by omega
    obtain rfl : k = i + 1 := by omega
    exact hk

def ltk (key : α → Int) (x y : α) : Bool := decide (key x < key y)
theorem swo_ltk (key : α → Int) : SWO (ltk key) where
  irrefl x := by simp [ltk]
  trans x y z h1 h2 := by simp [ltk] at *; omega
  ntrans x y z h1 h2 := by simp [ltk] at *; omega

theorem insInner_seg (a : Nat) : ∀ (j : Nat) (d : Array α) (b : Nat), j < b → b ≤ d.size → a ≤ j → Seg key a b d (insInner (ltk key) a j d)
  | 0, d, b, _, _, _ => by rw [insInner]; exact Seg.refl
  | j + 1, d, b, h1, h2, h3 => by
    rw [insInner]
    split
    · rename_i hc
      simp only [Bool.and_eq_true, decide_eq_true_eq, ltk] at hc
      exact ((swap_seg d j (by omega) hc.2).widen a b (by omega) (by omega) (by omega)).trans (insInner_seg a j _ b (by omega) (by rw [size_swp]; omega) (by omega))
    · exact Seg.refl
theorem insOuter_seg (a b : Nat) : ∀ (n i : Nat) (d : Array α), b - i ≤ n → b ≤ d.size → a ≤ i → Seg key a b d (insOuter (ltk key) a b i d)
  | 0, i, d, h, hb, ha => by rw [insOuter_stop _ _ _ _ _ (by omega)]; exact Seg.refl
  | n + 1, i, d, h, hb, ha => by
    by_cases hi : i < b
    · rw [insOuter_go _ _ _ _ _ hi]
      have h1 := insInner_seg (key := key) a i d b hi hb ha
      exact h1.trans (insOuter_seg a b n (i + 1) _ (by omega) (by rw [h1.size]; exact hb) (by omega))
    · rw [insOuter_stop _ _ _ _ _ hi]; exact Seg.refl
theorem insertion_seg (d : Array α) (a b : Nat) (hab : a ≤ b) (hb : b ≤ d.size) : Seg key a b d (insertionSort (ltk key) d a b) ∧ Srt key a b (insertionSort (ltk key) d a b) := by
  refine ⟨insOuter_seg a b _ _ d (Nat.le_refl _) hb (by omega), ?_⟩
  have h := (insertionSort_holds (lt := ltk key) (swo_ltk key) d a b hab hb).2
  intro i j hi hij hj
  rcases Nat.lt_or_ge i j with h1 | h1
  · have := h i j hi h1 hj
    simp [ltk] at this; exact this
  · obtain rfl : i = j := by omega
    exact Int.le_refl _

/-! ### the merge of two neighbours -/
/-- What a merge by rotation and two merges of its parts leaves: [a, s) and [m, e) stand left of 'mid', [s, m) and [e, b) right of it. -/
theorem merge_parts {s e mid : Nat} {d1 d2 d3 : Array α} (has : a ≤ s) (hsm : s ≤ m) (hme : m ≤ e) (heb : e ≤ b) (hmid : mid = s + (e - m))
    (hX : Srt key a m d) (hY : Srt key m b d)
    (hlo : ∀ i j, s ≤ i → i < m → m ≤ j → j < e → key d[j]! < key d[i]!) (hhi : ∀ i j, a ≤ i → i < s → e ≤ j → j < b → key d[i]! ≤ key d[j]!)
    (h1 : Rot s m e d d1) (h2 : Seg key a mid d1 d2) (h2s : Srt key a mid d2) (h3 : Seg key mid b d2 d3) (h3s : Srt key mid b d3) : Seg key a b d d3 ∧ Srt key a b d3 := by
  subst hmid
  have g1 := (h1.seg hsm hme hlo).widen a b (by omega) (by omega) (by omega)
  have g2 := h2.widen a b (by omega) (by omega) (by omega)
  have g3 := h3.widen a b (by omega) (by omega) (by omega)
  refine ⟨(g1.trans g2).trans g3, Srt.join (m := s + (e - m)) (h2s.congr fun t _ ht => h3.out t (.inl ht)) h3s fun i j hi him hmj hj => ?_⟩
  rw [h3.out i (.inl him)]
  obtain ⟨j', hj1, hj2, ej⟩ := h3.mem hmj hj
  obtain ⟨i', hi1, hi2, ei⟩ := h2.mem hi him
  rw [ej, h2.out j' (.inr hj1), ei, h1.at_ i', h1.at_ j']
  have ri : (i' < s ∧ rotI s m e i' = i') ∨ (m ≤ rotI s m e i' ∧ rotI s m e i' < e) := by
    by_cases c : i' < s
    · exact .inl ⟨c, rotI_out hsm hme (.inl c)⟩
    · right
      obtain ⟨q, rfl⟩ : ∃ q, i' = s + q := ⟨i' - s, by omega⟩
      rw [rotI_in1 (by omega)]; omega
  have rj : (e ≤ j' ∧ rotI s m e j' = j') ∨ (s ≤ rotI s m e j' ∧ rotI s m e j' < m) := by
    by_cases c : e ≤ j'
    · exact .inl ⟨c, rotI_out hsm hme (.inr c)⟩
    · right
      obtain ⟨q, rfl⟩ : ∃ q, j' = s + (e - m) + q := ⟨j' - (s + (e - m)), by omega⟩
      rw [rotI_in2 hsm hme (by omega)]; omega
  rcases ri with ⟨c1, e1⟩ | ⟨c1, e1⟩ <;> rcases rj with ⟨c2, e2⟩ | ⟨c2, e2⟩
  · rw [e1, e2]; exact hhi _ _ hi1 c1 c2 hj2
  · rw [e1]; exact hX _ _ hi1 (by omega) e2
  · rw [e2]; exact hY _ _ c1 (by omega) hj2
  · exact Int.le_of_lt (hlo _ _ c2 e2 c1 e1)
end
end Go.Proofs.YtdfndbegifdejaaDoorStab

/-! ### SwapR -/
/- The library's stable sort at a slice of structs: what its bodies lean on, said once of any program; swapRangeCmpFunc. -/
namespace Go.Proofs.YtdfndbegifdejaaDoorStab
set_option linter.unusedVariables false
set_option linter.unusedSimpArgs false
set_option linter.unusedSectionVars false
open Go Go.Proofs Go.Shelf Go.RowKit Go.Lib Go.Sort
variable {P : Program} {α : Type} [Inhabited α]

/-- What the stable sort's bodies lean on: the bodies themselves, and the types' facts. -/
structure Lays (P : Program) (k : Nat) : Prop where
  mixed : P.follows .mixedOrders = true
  f93 : P.funcs[104]? = some Tryd.f104
  f74 : P.funcs[91]? = some Tryd.f91
  f68 : P.funcs[68]? = some Tryd.f68
  f67 : P.funcs[67]? = some Tryd.f67
  f59 : P.funcs[59]? = some Tryd.f59
  f40 : P.funcs[43]? = some Tryd.f43
  t0 : P.underlying 0 = some (TypeDesc.tuple #[])
  a0 : ∀ w, (isAgg 0).run P w = .ok false w
  z0 : ∀ w, (Go.sizeOf 0).run P w = .ok 1 w
  v0 : ∀ w, (zeroValue 0).run P w = .ok (Value.tuple #[]) w
  t3 : P.underlying 3 = some (TypeDesc.int IntKind.i64)
  a3 : ∀ w, (isAgg 3).run P w = .ok false w
  z3 : ∀ w, (Go.sizeOf 3).run P w = .ok 1 w
  v3 : ∀ w, (zeroValue 3).run P w = .ok (Value.int IntKind.i64 0) w
  t4 : P.underlying 4 = some TypeDesc.bool
  a4 : ∀ w, (isAgg 4).run P w = .ok false w
  z4 : ∀ w, (Go.sizeOf 4).run P w = .ok 1 w
  v4 : ∀ w, (zeroValue 4).run P w = .ok (Value.bool false) w
  t22 : P.underlying 22 = some (TypeDesc.slice 32)
  a22 : ∀ w, (isAgg 22).run P w = .ok false w
  z22 : ∀ w, (Go.sizeOf 22).run P w = .ok 1 w
  v22 : ∀ w, (zeroValue 22).run P w = .ok (Value.slice none 0 0) w
  t35 : P.underlying 39 = some (TypeDesc.func #[32, 32] #[3] false)
  a35 : ∀ w, (isAgg 39).run P w = .ok false w
  z35 : ∀ w, (Go.sizeOf 39).run P w = .ok 1 w
  v35 : ∀ w, (zeroValue 39).run P w = .ok Value.nilFunc w
  t115 : P.underlying 108 = some (TypeDesc.int IntKind.u64)
  a115 : ∀ w, (isAgg 108).run P w = .ok false w
  z115 : ∀ w, (Go.sizeOf 108).run P w = .ok 1 w
  aE : ∀ w, (isAgg 32).run P w = .ok true w
  zE : ∀ w, (Go.sizeOf 32).run P w = .ok k w

theorem lays : Lays Tryd.prog 3 where
  mixed := by kernel_rfl
  f93 := Tryd.func104
  f74 := Tryd.func91
  f68 := Tryd.func68
  f67 := Tryd.func67
  f59 := Tryd.func59
  f40 := Tryd.func43
  t0 := Tryd.underlying0
  a0 := Tryd.isAgg0
  z0 := Tryd.sizeOf0
  v0 := Tryd.zeroValue0
  t3 := Tryd.underlying3
  a3 := Tryd.isAgg3
  z3 := Tryd.sizeOf3
  v3 := Tryd.zeroValue3
  t4 := Tryd.underlying4
  a4 := Tryd.isAgg4
  z4 := Tryd.sizeOf4
  v4 := Tryd.zeroValue4
  t22 := Tryd.underlying22
  a22 := Tryd.isAgg22
  z22 := Tryd.sizeOf22
  v22 := Tryd.zeroValue22
  t35 := Tryd.underlying39
  a35 := Tryd.isAgg39
  z35 := Tryd.sizeOf39
  v35 := Tryd.zeroValue39
  t115 := Tryd.underlying108
  a115 := Tryd.isAgg108
  z115 := Tryd.sizeOf108
  aE := Tryd.isAgg32
  zE := Tryd.sizeOf32

/-- Where an element stands behind the exchange of i pairs, from p on and from q on. -/
def swI (p q i t : Nat) : Nat := if p ≤ t ∧ t < p + i then q + (t - p) else if q ≤ t ∧ t < q + i then p + (t - q) else t

theorem swI_succ (p q i n t : Nat) (hpq : p + n ≤ q) (hi : i < n) : swI p q (i + 1) t = if t = q + i then swI p q i (p + i) else if t = p + i then swI p q i (q + i) else swI p q i t := by
  unfold swI
  by_cases h1 : t = q + i
  · subst h1; rw [if_pos rfl, if_neg (by omega), if_pos (by omega), if_neg (by omega), if_neg (by omega)]; omega
  · rw [if_neg h1]
    by_cases h2 : t = p + i
    · subst h2; rw [if_pos rfl, if_pos (by omega), if_neg (by omega), if_neg (by omega)]; omega
    · rw [if_neg h2]
      by_cases h3 : p ≤ t ∧ t < p + i
      · rw [if_pos (by omega), if_pos h3]
      · rw [if_neg (by omega), if_neg h3]
        by_cases h4 : q ≤ t ∧ t < q + i
        · rw [if_pos (by omega), if_pos h4]
        · rw [if_neg (by omega), if_neg h4]

set_option maxHeartbeats 4000000 in
set_option maxRecDepth 1000000 in
theorem swapRange (k : Nat) (L : Lays P k) (enc : α → List Value) (g : Nat) (cb : Array Value) (blk off cap p q n : Nat) (d0 d : Array α) (w0 w : World)
    (R : RowK enc k w0 blk off d0) (hs : d0.size = d.size) (S : SWK enc k w0 blk off d w) (hpq : p + n ≤ q) (hq : q + n ≤ d.size) (hsz : d.size < 4611686018427387904) :
    Calls P 104 #[.slice (some ⟨blk, off, none⟩) d.size cap, .int .i64 p, .int .i64 q, .int .i64 n, .func (.func g) #[] cb] w fun e w' =>
      e = .returned (.tuple #[]) ∧ ∃ dk : Array α, dk.size = d.size ∧ (∀ t, dk[t]! = d[swI p q n t]!) ∧ SWK enc k w0 blk off dk w' := by
  have mixed := L.mixed; have t0 := L.t0; have a0 := L.a0; have z0 := L.z0; have v0 := L.v0; have t3 := L.t3; have a3 := L.a3; have z3 := L.z3; have v3 := L.v3; have t4 := L.t4; have a4 := L.a4; have z4 := L.z4; have v4 := L.v4; have t22 := L.t22; have a22 := L.a22; have z22 := L.z22; have v22 := L.v22; have t35 := L.t35; have a35 := L.a35; have z35 := L.z35; have v35 := L.v35; have aE := L.aE; have zE := L.zE
  have FG := L.f93
  have S0 : Aside (SWK enc k w0 blk off d w) := S
  clear S L
  go_enter FG, Tryd.ntmps104
  go_wp2
  go_loopg [10] n (fun kx s10 wr => ∃ (i : Nat) (dk : Array α), s10 = .int .i64 i ∧ i ≤ n ∧ n - i ≤ kx ∧ dk.size = d.size ∧ Aside (SWK enc k w0 blk off dk wr) ∧ Aside (∀ t, dk[t]! = d[swI p q i t]!))
  case atStart => exact ⟨0, d, rfl, Nat.zero_le _, by omega, rfl, S0, (show Aside _ from fun t => by unfold swI; rw [if_neg (by omega), if_neg (by omega)])⟩
  case round =>
    clear S0
    obtain ⟨i, dk, rfl, hi, hkx, hds, S1, HE⟩ := hrel
    by_cases hlt : i < n
    · have hltz : (i : Int) < (n : Int) := by omega
      go_wp2_with fail
      have ea44 : ((p : Int) + (i : Int)).toNat = p + i := by omega
      have pa44 : (0 : Int) ≤ (p : Int) + (i : Int) := by omega
      have ba44 : (p : Int) + (i : Int) < (d.size : Int) := by omega
      have ra44 : IntKind.i64.wrap ((p : Int) + (i : Int)) = (p : Int) + (i : Int) := by rw [IntKind.wrap_i64]; omega
      have ec44 : ((q : Int) + (i : Int)).toNat = q + i := by omega
      have pc44 : (0 : Int) ≤ (q : Int) + (i : Int) := by omega
      have bc44 : (q : Int) + (i : Int) < (d.size : Int) := by omega
      have rc44 : IntKind.i64.wrap ((q : Int) + (i : Int)) = (q : Int) + (i : Int) := by rw [IntKind.wrap_i64]; omega
      have S2 : Aside (SWK enc k w0 blk off (swp dk (p + i) (q + i)) ((wr.drew.setCells blk (off + (p + i) * k) (enc dk[q + i]!)).setCells blk (off + (q + i) * k) (enc dk[p + i]!))) := S1.out.swapped R (p + i) (q + i) (by omega) (by omega)
      have l44a := S1.out.ld1 R (by omega) P (p + i) (by omega)
      have l44b := S1.out.ld1 R (by omega) P (q + i) (by omega)
      have s44a := S1.out.st1 R (by omega) P (p + i) (by omega) dk[q + i]!
      have s44b := S1.out.st2 R (by omega) P (p + i) (q + i) (by omega) (by omega) dk[q + i]! dk[p + i]!
      have n44a : (enc dk[p + i]!).length = k := R.hk _
      have n44b : (enc dk[q + i]!).length = k := R.hk _
      generalize enc dk[p + i]! = cI44 at S2 l44a s44b n44a
      generalize enc dk[q + i]! = cJ44 at S2 l44b s44a s44b n44b
      clear S1
      go_wp2_with fail
      go_big_region_o
      clear l44a l44b s44a s44b
      generalize (wr.drew.setCells blk (off + (p + i) * k) cJ44).setCells blk (off + (q + i) * k) cI44 = w2 at S2 ⊢
      go_wp2
      go_roundg (n - (i + 1))
      case measure => omega
      case rel =>
        refine ⟨i + 1, swp dk (p + i) (q + i), by simp, by omega, Nat.le_refl _, by rw [size_swp]; exact hds, S2, (show Aside _ from fun t => ?_)⟩
        rw [swp_get dk (by omega) (by omega), HE.out, HE.out, HE.out]
        rw [swI_succ p q i n t hpq hlt]
        by_cases e1 : t = q + i
        · rw [if_pos e1, if_pos e1]
        · rw [if_neg e1, if_neg e1]
          by_cases e2 : t = p + i
          · rw [if_pos e2, if_pos e2]
          · rw [if_neg e2, if_neg e2]
    · have hltz : ¬ (i : Int) < (n : Int) := by omega
      obtain rfl : i = n := by omega
      go_wp2
      go_end0
      exact ⟨rfl, dk, hds, HE.out, S1.out⟩
end Go.Proofs.YtdfndbegifdejaaDoorStab

/-! ### RowS -/
/- Own words over any program: a row of one's own of structs without rows inside, as the library's sorting knows it, and back. -/
namespace Go.Proofs.YtdfndbegifdejaaDoorMine
set_option linter.unusedVariables false
set_option linter.unusedSimpArgs false
set_option linter.unusedSectionVars false
open Go.RowKit Go.Proofs.YtdfndbegifdejaaDoorW.PrintWords Go.Proofs Go.Shelf Go.Lib Go.Sort
section
variable {α : Type} [Inhabited α]

/-- A kind whose elements are just their cells. -/
structure Flat0 (d : Kd α) (enc : α → List Value) : Prop where
  opens : ∀ {w : World} {x : α} {cs : List Value}, d.K w x cs → cs = enc x
  made : ∀ (w : World) (base : Nat) (ok : Nat → Prop) (x : α), d.M w base ok x (enc x)

variable {d : Kd α} {enc : α → List Value}
theorem Flat0.len (h : Flat0 d enc) (x : α) : (enc x).length = d.sz := d.K_len (d.K_of_M (h.made default 0 (fun _ => True) x))
theorem Flat0.one (h : Flat0 d enc) (x : α) : ∀ u ∈ enc x, u.oneCell' = true := d.K_one (d.K_of_M (h.made default 0 (fun _ => True) x))

theorem Flat0.flat (h : Flat0 d enc) {w : World} {base : Nat} {ok : Nat → Prop} {xs : List α} {cs : List Value} (hr : Reps (d.M w base ok) d.sz xs cs) (hs : 0 < d.sz) : cs = (flatK enc d.sz xs.toArray).toList := by
  apply List.ext_getElem?
  intro j
  by_cases hj : j < xs.length * d.sz
  · have h1 : j / d.sz < xs.length := Nat.div_lt_of_lt_mul (by rw [Nat.mul_comm]; exact hj)
    have h2 := hr.2 (j / d.sz) (xs[j / d.sz]) (by simp [h1])
    have h3 := h.opens (d.K_of_M h2)
    have h4 : j % d.sz < d.sz := Nat.mod_lt _ hs
    have h5 : cs[j]? = (enc xs[j / d.sz])[j % d.sz]? := by
      rw [← h3, List.getElem?_take, if_pos h4, List.getElem?_drop, Nat.mul_comm, Nat.div_add_mod]
    have h6 := get_flatK enc d.sz xs.toArray j (by simpa using hj)
    have h7 : xs.toArray[j / d.sz]! = xs[j / d.sz] := by rw [getElem!_pos xs.toArray (j / d.sz) (by simpa using h1)]; simp
    have h8 : (flatK enc d.sz xs.toArray).toList[j]? = some (flatK enc d.sz xs.toArray)[j]! := by
      rw [Array.getElem?_toList, getElem!_pos _ j (by simpa using hj), getElem?_pos _ j (by simpa using hj)]
    rw [h5, h8, h6, h7, getElem?_pos _ _ (by rw [h.len]; exact h4), getElem!_pos _ _ (by rw [h.len]; exact h4)]
  · have e1 : cs[j]? = none := by rw [List.getElem?_eq_none_iff, hr.1]; omega
    have e2 : (flatK enc d.sz xs.toArray).toList[j]? = none := by rw [List.getElem?_eq_none_iff]; simp; omega
    rw [e1, e2]

theorem Flat0.reps (h : Flat0 d enc) (w : World) (base : Nat) (ok : Nat → Prop) (xs : List α) (hs : 0 < d.sz) : Reps (d.M w base ok) d.sz xs (flatK enc d.sz xs.toArray).toList := by
  refine ⟨by simp, fun i p hp => ?_⟩
  have hi : i < xs.length := (List.getElem?_eq_some_iff.1 hp).1
  have e : ((flatK enc d.sz xs.toArray).toList.drop (i * d.sz)).take d.sz = enc p := by
    apply List.ext_getElem?
    intro c
    rw [List.getElem?_take]
    by_cases hc : c < d.sz
    · have hlt : i * d.sz + c < xs.length * d.sz := by
        have := Nat.mul_le_mul_right d.sz (show i + 1 ≤ xs.length from hi)
        rw [Nat.add_mul, Nat.one_mul] at this; omega
      rw [if_pos hc, List.getElem?_drop, Array.getElem?_toList, getElem?_pos _ _ (by simpa using hlt)]
      have h6 := get_flatK enc d.sz xs.toArray (i * d.sz + c) (by simpa using hlt)
      rw [getElem!_pos _ _ (by simpa using hlt)] at h6
      have e1 : (i * d.sz + c) / d.sz = i := by rw [Nat.add_comm, Nat.add_mul_div_right _ _ hs, Nat.div_eq_of_lt hc, Nat.zero_add]
      have e2 : (i * d.sz + c) % d.sz = c := by rw [Nat.add_comm, Nat.add_mul_mod_self_right, Nat.mod_eq_of_lt hc]
      rw [h6, e1, e2]
      have e3 : xs.toArray[i]! = p := by
        rw [getElem!_pos _ i (by simpa using hi)]
        have := (List.getElem?_eq_some_iff.1 hp).2
        simpa using this
      rw [e3, getElem?_pos _ c (by rw [h.len]; exact hc), getElem!_pos _ c (by rw [h.len]; exact hc)]
    · rw [if_neg hc, List.getElem?_eq_none_iff.2 (by rw [h.len]; omega)]
  rw [e]
  exact h.made w base ok p

variable {e : Nat} {W w' : World} {base : Nat} {ok : Nat → Prop} {g cap : Nat} {xs : List α} {dk : Array α}

theorem Flat0.sort_in (h : Flat0 d enc) (hs : 0 < d.sz) (hr : d.R e W base ok (.slice (some ⟨g, 0, none⟩) xs.length cap) xs) : RowK enc d.sz W g 0 xs.toArray ∧ SWK enc d.sz W g 0 xs.toArray W := by
  obtain ⟨hok, inner, hown, hrp⟩ := hr
  rcases hown.2 with ⟨hv, _⟩ | ⟨g', cap', cur, hv, hb, hh, hn, hcm, hcs, ht⟩
  · cases hv
  · cases hv
    have hfl := h.flat hrp hs
    have hH : HoldsK enc d.sz W g 0 xs.toArray := by
      intro j hj
      rw [Nat.zero_add]
      refine ⟨?_, blk_frozen hh j⟩
      rw [blk_cell hh j]
      have hj' : j < xs.length * d.sz := by simpa using hj
      have e1 : cur[j]? = inner[j]? := by
        rw [← ht, List.getElem?_take, if_pos hj', Array.getElem?_toList]
      have h8 : (flatK enc d.sz xs.toArray).toList[j]? = some (flatK enc d.sz xs.toArray)[j]! := by
        rw [Array.getElem?_toList, getElem!_pos _ j hj, getElem?_pos _ j hj]
      rw [e1, hfl, h8]
      rfl
    exact ⟨⟨h.len, h.one, hH, blk_lt hh⟩, SWK.start hH⟩

theorem Flat0.sort_out (h : Flat0 d enc) (hs : 0 < d.sz) (hr : d.R e W base ok (.slice (some ⟨g, 0, none⟩) xs.length cap) xs) (hw : SWK enc d.sz W g 0 dk w') (hl : dk.size = xs.length) :
    d.R e w' base ok (.slice (some ⟨g, 0, none⟩) xs.length cap) dk.toList ∧ W.grownBy w' (some g) := by
  obtain ⟨n, os, rfl⟩ := hw
  obtain ⟨hok, inner, hown, hrp⟩ := hr
  rcases hown.2 with ⟨hv, _⟩ | ⟨g', cap', cur, hv, hb, hh, hn, hcm, hcs, ht⟩
  · cases hv
  · cases hv
    have hlt := blk_lt hh
    have hheap : (sortWorldK enc d.sz W g 0 n dk os).heap = W.heap.modify g (onCells (putCells id 0 (flatK enc d.sz dk))) ++ os := rfl
    have hsz : (W.heap.modify g (onCells (putCells id 0 (flatK enc d.sz dk)))).size = W.heap.size := by simp
    have hg : (sortWorldK enc d.sz W g 0 n dk os).heap[g]? = some (.cells (putCells id 0 (flatK enc d.sz dk) cur) e (0, 0)) := by
      rw [hheap, Array.getElem?_append_left (by rw [hsz]; exact hlt), Array.getElem?_modify, if_pos rfl, hh]
      rfl
    refine ⟨⟨hok, (flatK enc d.sz dk).toList, ⟨by simp, .inr ⟨g, cap, _, by simp [hl], hb, hg, by simp [hl]; exact hn, hcm, by simp [putCells, hcs], ?_⟩⟩, ?_⟩, ⟨rfl, rfl, rfl, ?_, fun k hk hne => ?_⟩⟩
    · have hfit : xs.length * d.sz ≤ cap * d.sz := Nat.mul_le_mul_right _ hn
      apply List.ext_getElem?
      intro j
      rw [List.getElem?_take]
      by_cases hj : j < dk.size * d.sz
      · have hjc : j < cur.size := by rw [hcs]; rw [hl] at hj; omega
        rw [if_pos (by simpa using hj), Array.getElem?_toList, Array.getElem?_toList]
        simp only [putCells, Array.getElem?_mapIdx, getElem?_pos cur j hjc, Option.map_some]
        rw [if_pos (by simp; exact hj), Nat.sub_zero, getElem?_pos _ j (by simpa using hj), getElem!_pos _ j (by simpa using hj)]
        rfl
      · rw [if_neg (by simpa using hj)]
        symm
        rw [List.getElem?_eq_none_iff]; simp; omega
    · have := h.reps (sortWorldK enc d.sz W g 0 n dk os) base (fun k => ok k ∧ some k ≠ (Value.slice (some ⟨g, 0, none⟩) xs.length cap).ownBlock) dk.toList hs
      simpa using this
    · rw [hheap, Array.size_append, hsz]; omega
    · rw [hheap, Array.getElem?_append_left (by rw [hsz]; exact hk), Array.getElem?_modify, if_neg (fun e1 => hne (by rw [e1]))]
end
end Go.Proofs.YtdfndbegifdejaaDoorMine

/-! ### LaysR -/
/- The library's sorting at strings and at places: the shelf's contracts laid at this program. -/
namespace Go.Proofs.YtdfndbegifdejaaDoor.GD
open Go.Proofs Go.Shelf
def sortStrsRen : Ren where
  f := fun x => if x = 6 then 58 else if x = 15 then 63 else if x = 14 then 66 else if x = 28 then 81 else if x = 29 then 82 else if x = 20 then 83 else if x = 21 then 84 else if x = 22 then 85 else if x = 23 then 86 else if x = 24 then 87 else if x = 25 then 88 else if x = 26 then 89 else if x = 27 then 90 else if x = 46 then 101 else if x = 47 then 97 else if x = 48 then 98 else if x = 49 then 102 else if x = 50 then 103 else if x = 57 then 108 else x
  t := fun x => if x = 22 then 100 else if x = 24 then 9 else if x = 25 then 74 else if x = 39 then 108 else if x = 53 then 126 else if x = 55 then 84 else if x = 46 then 120 else if x = 45 then 119 else if x = 50 then 90 else if x = 66 then 136 else if x = 70 then 140 else if x = 76 then 144 else if x = 77 then 145 else x
  g := fun x => x

set_option maxRecDepth 100000 in
theorem sortStrs : SlLaysF.n6 Tryd.prog sortStrsRen where
  mixed := by kernel_rfl
  f6 := ⟨"slices.SortFunc[[]string,string]", of_decide_eq_true (by kernel_rfl), Tryd.func58.trans (congrArg some (by kernel_rfl))⟩
  f14 := ⟨"slices.pdqsortCmpFunc[string]", of_decide_eq_true (by kernel_rfl), Tryd.func66.trans (congrArg some (by kernel_rfl))⟩
  f15 := Tryd.func63.trans (congrArg some (by kernel_rfl))
  f20 := ⟨"slices.insertionSortCmpFunc[string]", of_decide_eq_true (by kernel_rfl), Tryd.func83.trans (congrArg some (by kernel_rfl))⟩
  f21 := ⟨"slices.heapSortCmpFunc[string]", of_decide_eq_true (by kernel_rfl), Tryd.func84.trans (congrArg some (by kernel_rfl))⟩
  f22 := ⟨"slices.breakPatternsCmpFunc[string]", of_decide_eq_true (by kernel_rfl), Tryd.func85.trans (congrArg some (by kernel_rfl))⟩
  f23 := ⟨"slices.choosePivotCmpFunc[string]", of_decide_eq_true (by kernel_rfl), Tryd.func86.trans (congrArg some (by kernel_rfl))⟩
  f24 := ⟨"slices.reverseRangeCmpFunc[string]", of_decide_eq_true (by kernel_rfl), Tryd.func87.trans (congrArg some (by kernel_rfl))⟩
  f25 := ⟨"slices.partialInsertionSortCmpFunc[string]", of_decide_eq_true (by kernel_rfl), Tryd.func88.trans (congrArg some (by kernel_rfl))⟩
  f26 := ⟨"slices.partitionEqualCmpFunc[string]", of_decide_eq_true (by kernel_rfl), Tryd.func89.trans (congrArg some (by kernel_rfl))⟩
  f27 := ⟨"slices.partitionCmpFunc[string]", of_decide_eq_true (by kernel_rfl), Tryd.func90.trans (congrArg some (by kernel_rfl))⟩
  f28 := Tryd.func81.trans (congrArg some (by kernel_rfl))
  f29 := Tryd.func82.trans (congrArg some (by kernel_rfl))
  f46 := ⟨"slices.siftDownCmpFunc[string]", of_decide_eq_true (by kernel_rfl), Tryd.func101.trans (congrArg some (by kernel_rfl))⟩
  f47 := Tryd.func97.trans (congrArg some (by kernel_rfl))
  f48 := Tryd.func98.trans (congrArg some (by kernel_rfl))
  f49 := ⟨"slices.medianAdjacentCmpFunc[string]", of_decide_eq_true (by kernel_rfl), Tryd.func102.trans (congrArg some (by kernel_rfl))⟩
  f50 := ⟨"slices.medianCmpFunc[string]", of_decide_eq_true (by kernel_rfl), Tryd.func103.trans (congrArg some (by kernel_rfl))⟩
  f57 := ⟨"slices.order2CmpFunc[string]", of_decide_eq_true (by kernel_rfl), Tryd.func108.trans (congrArg some (by kernel_rfl))⟩
  t0 := Tryd.underlying0
  a0 := Tryd.isAgg0
  z0 := Tryd.sizeOf0
  v0 := Tryd.zeroValue0
  t3 := Tryd.underlying3
  a3 := Tryd.isAgg3
  z3 := Tryd.sizeOf3
  v3 := Tryd.zeroValue3
  t4 := Tryd.underlying4
  a4 := Tryd.isAgg4
  z4 := Tryd.sizeOf4
  v4 := Tryd.zeroValue4
  t5 := Tryd.underlying5
  a5 := Tryd.isAgg5
  z5 := Tryd.sizeOf5
  v5 := Tryd.zeroValue5
  t9 := Tryd.underlying9
  a9 := Tryd.isAgg9
  z9 := Tryd.sizeOf9
  v9 := Tryd.zeroValue9
  t22 := Tryd.underlying100
  a22 := Tryd.isAgg100
  z22 := Tryd.sizeOf100
  v22 := Tryd.zeroValue100
  a24 := Tryd.isAgg9
  z24 := Tryd.sizeOf9
  t25 := Tryd.underlying74
  a25 := Tryd.isAgg74
  z25 := Tryd.sizeOf74
  v25 := Tryd.zeroValue74
  t39 := Tryd.underlying108
  a39 := Tryd.isAgg108
  z39 := Tryd.sizeOf108
  v39 := Tryd.zeroValue108
  t45 := Tryd.underlying119
  a45 := Tryd.isAgg119
  z45 := Tryd.sizeOf119
  v45 := Tryd.zeroValue119
  t46 := Tryd.underlying120
  a46 := Tryd.isAgg120
  z46 := Tryd.sizeOf120
  v46 := Tryd.zeroValue120
  t50 := Tryd.underlying90
  a50 := Tryd.isAgg90
  z50 := Tryd.sizeOf90
  v50 := Tryd.zeroValue90
  t53 := Tryd.underlying126
  a53 := Tryd.isAgg126
  z53 := Tryd.sizeOf126
  v53 := Tryd.zeroValue126
  t55 := Tryd.underlying84
  a55 := Tryd.isAgg84
  z55 := Tryd.sizeOf84
  v55 := Tryd.zeroValue84
  t66 := Tryd.underlying136
  a66 := Tryd.isAgg136
  z66 := Tryd.sizeOf136
  v66 := Tryd.zeroValue136
  t70 := Tryd.underlying140
  a70 := Tryd.isAgg140
  z70 := Tryd.sizeOf140
  v70 := Tryd.zeroValue140
  t76 := Tryd.underlying144
  a76 := Tryd.isAgg144
  z76 := Tryd.sizeOf144
  v76 := Tryd.zeroValue144
  t77 := Tryd.underlying145
  a77 := Tryd.isAgg145
  z77 := Tryd.sizeOf145
  v77 := Tryd.zeroValue145

def sortPlacesRen : Ren where
  f := fun x => if x = 6 then 54 else if x = 15 then 63 else if x = 14 then 62 else if x = 28 then 81 else if x = 29 then 82 else if x = 20 then 73 else if x = 21 then 74 else if x = 22 then 75 else if x = 23 then 76 else if x = 24 then 77 else if x = 25 then 78 else if x = 26 then 79 else if x = 27 then 80 else if x = 46 then 96 else if x = 47 then 97 else if x = 48 then 98 else if x = 49 then 99 else if x = 50 then 100 else if x = 57 then 107 else x
  t := fun x => if x = 22 then 94 else if x = 24 then 70 else if x = 25 then 75 else if x = 39 then 108 else if x = 53 then 126 else if x = 55 then 84 else if x = 46 then 120 else if x = 45 then 119 else if x = 50 then 90 else if x = 66 then 136 else if x = 70 then 140 else if x = 76 then 144 else if x = 77 then 145 else x
  g := fun x => x

set_option maxRecDepth 100000 in
theorem sortPlaces : SlLaysF0.n6 Tryd.prog sortPlacesRen where
  mixed := by kernel_rfl
  f6 := ⟨"slices.SortFunc[[]payoff/flow.place,payoff/flow.place]", of_decide_eq_true (by kernel_rfl), Tryd.func54.trans (congrArg some (by kernel_rfl))⟩
  f14 := ⟨"slices.pdqsortCmpFunc[payoff/flow.place]", of_decide_eq_true (by kernel_rfl), Tryd.func62.trans (congrArg some (by kernel_rfl))⟩
  f15 := Tryd.func63.trans (congrArg some (by kernel_rfl))
  f20 := ⟨"slices.insertionSortCmpFunc[payoff/flow.place]", of_decide_eq_true (by kernel_rfl), Tryd.func73.trans (congrArg some (by kernel_rfl))⟩
  f21 := ⟨"slices.heapSortCmpFunc[payoff/flow.place]", of_decide_eq_true (by kernel_rfl), Tryd.func74.trans (congrArg some (by kernel_rfl))⟩
  f22 := ⟨"slices.breakPatternsCmpFunc[payoff/flow.place]", of_decide_eq_true (by kernel_rfl), Tryd.func75.trans (congrArg some (by kernel_rfl))⟩
  f23 := ⟨"slices.choosePivotCmpFunc[payoff/flow.place]", of_decide_eq_true (by kernel_rfl), Tryd.func76.trans (congrArg some (by kernel_rfl))⟩
  f24 := ⟨"slices.reverseRangeCmpFunc[payoff/flow.place]", of_decide_eq_true (by kernel_rfl), Tryd.func77.trans (congrArg some (by kernel_rfl))⟩
  f25 := ⟨"slices.partialInsertionSortCmpFunc[payoff/flow.place]", of_decide_eq_true (by kernel_rfl), Tryd.func78.trans (congrArg some (by kernel_rfl))⟩
  f26 := ⟨"slices.partitionEqualCmpFunc[payoff/flow.place]", of_decide_eq_true (by kernel_rfl), Tryd.func79.trans (congrArg some (by kernel_rfl))⟩
  f27 := ⟨"slices.partitionCmpFunc[payoff/flow.place]", of_decide_eq_true (by kernel_rfl), Tryd.func80.trans (congrArg some (by kernel_rfl))⟩
  f28 := Tryd.func81.trans (congrArg some (by kernel_rfl))
  f29 := Tryd.func82.trans (congrArg some (by kernel_rfl))
  f46 := ⟨"slices.siftDownCmpFunc[payoff/flow.place]", of_decide_eq_true (by kernel_rfl), Tryd.func96.trans (congrArg some (by kernel_rfl))⟩
  f47 := Tryd.func97.trans (congrArg some (by kernel_rfl))
  f48 := Tryd.func98.trans (congrArg some (by kernel_rfl))
  f49 := ⟨"slices.medianAdjacentCmpFunc[payoff/flow.place]", of_decide_eq_true (by kernel_rfl), Tryd.func99.trans (congrArg some (by kernel_rfl))⟩
  f50 := ⟨"slices.medianCmpFunc[payoff/flow.place]", of_decide_eq_true (by kernel_rfl), Tryd.func100.trans (congrArg some (by kernel_rfl))⟩
  f57 := ⟨"slices.order2CmpFunc[payoff/flow.place]", of_decide_eq_true (by kernel_rfl), Tryd.func107.trans (congrArg some (by kernel_rfl))⟩
  t0 := Tryd.underlying0
  a0 := Tryd.isAgg0
  z0 := Tryd.sizeOf0
  v0 := Tryd.zeroValue0
  t3 := Tryd.underlying3
  a3 := Tryd.isAgg3
  z3 := Tryd.sizeOf3
  v3 := Tryd.zeroValue3
  t4 := Tryd.underlying4
  a4 := Tryd.isAgg4
  z4 := Tryd.sizeOf4
  v4 := Tryd.zeroValue4
  t5 := Tryd.underlying5
  a5 := Tryd.isAgg5
  z5 := Tryd.sizeOf5
  v5 := Tryd.zeroValue5
  t9 := Tryd.underlying9
  a9 := Tryd.isAgg9
  z9 := Tryd.sizeOf9
  v9 := Tryd.zeroValue9
  t22 := Tryd.underlying94
  a22 := Tryd.isAgg94
  z22 := Tryd.sizeOf94
  v22 := Tryd.zeroValue94
  t25 := Tryd.underlying75
  a25 := Tryd.isAgg75
  z25 := Tryd.sizeOf75
  v25 := Tryd.zeroValue75
  t39 := Tryd.underlying108
  a39 := Tryd.isAgg108
  z39 := Tryd.sizeOf108
  v39 := Tryd.zeroValue108
  t45 := Tryd.underlying119
  a45 := Tryd.isAgg119
  z45 := Tryd.sizeOf119
  v45 := Tryd.zeroValue119
  t46 := Tryd.underlying120
  a46 := Tryd.isAgg120
  z46 := Tryd.sizeOf120
  v46 := Tryd.zeroValue120
  t50 := Tryd.underlying90
  a50 := Tryd.isAgg90
  z50 := Tryd.sizeOf90
  v50 := Tryd.zeroValue90
  t53 := Tryd.underlying126
  a53 := Tryd.isAgg126
  z53 := Tryd.sizeOf126
  v53 := Tryd.zeroValue126
  t55 := Tryd.underlying84
  a55 := Tryd.isAgg84
  z55 := Tryd.sizeOf84
  v55 := Tryd.zeroValue84
  t66 := Tryd.underlying136
  a66 := Tryd.isAgg136
  z66 := Tryd.sizeOf136
  v66 := Tryd.zeroValue136
  t70 := Tryd.underlying140
  a70 := Tryd.isAgg140
  z70 := Tryd.sizeOf140
  v70 := Tryd.zeroValue140
  t76 := Tryd.underlying144
  a76 := Tryd.isAgg144
  z76 := Tryd.sizeOf144
  v76 := Tryd.zeroValue144
  t77 := Tryd.underlying145
  a77 := Tryd.isAgg145
  z77 := Tryd.sizeOf145
  v77 := Tryd.zeroValue145

end Go.Proofs.YtdfndbegifdejaaDoor.GD

/-! ### SrtS -/
/- The library's sorting of strings by strings.Compare, of a row of one's own: the shelf's contract laid at this program. -/
namespace Go.Proofs.YtdfndbegifdejaaDoor.GD
set_option linter.unusedVariables false
set_option linter.unusedSimpArgs false
open Go.RowKit Go.Proofs.YtdfndbegifdejaaDoorW.PrintWords Go.Proofs.YtdfndbegifdejaaDoorW.PrintLast Go.Proofs.YtdfndbegifdejaaDoorW.PrintMore Go.Proofs.YtdfndbegifdejaaDoorMine Go.Proofs Go.Shelf Go.Sort Go.Lib

set_option maxHeartbeats 1000000 in
set_option maxRecDepth 100000 in
theorem cmpString.calls (a b : ByteArray) (w : World) :
    Calls Tryd.prog 57 #[.string a, .string b] w fun e w' => e = .returned (.int .i64 (Lib.compareBytes a.data.toList b.data.toList)) ∧ w' = w := by
  go_enter Tryd.func57, Tryd.ntmps57
  go_wp2
  rw [run_callFunc_extern Tryd.func65 (by kernel_rfl) (by kernel_rfl) (e := Extern.BytealgCompare.compare) (by kernel_rfl) (by kernel_rfl), Lib.run_compareString]
  simp only [Result.andThen]
  rw [Oper.upon_value]
  go_wp2
  go_ret
  exact ⟨rfl, rfl⟩
def scmp (a b : ByteArray) : Int := Lib.compareBytes a.data.toList b.data.toList
set_option maxHeartbeats 1000000 in
theorem strCompare.calls (a b : ByteArray) (w : World) : Calls Tryd.prog 38 #[.string a, .string b] w fun e w' => e = .returned (.int .i64 (scmp a b)) ∧ w' = w := by
  go_enter Tryd.func38, Tryd.ntmps38
  go_wp2_with (go_at_call 57; refine (cmpString.calls _ _ _).mono ?_; rintro e w' ⟨rfl, rfl⟩)
  go_ret
  exact ⟨rfl, rfl⟩

theorem cmp_less' : ∀ a b : List UInt8, Lib.compareBytes a b = if Op.bytesLess a b = true then -1 else if (a == b) = true then 0 else 1
  | [], [] => by simp [Lib.compareBytes, Op.bytesLess]
  | [], _ :: _ => by simp [Lib.compareBytes, Op.bytesLess]
  | _ :: _, [] => by simp [Lib.compareBytes, Op.bytesLess]
  | x :: a, y :: b => by
    have ih := cmp_less' a b
    rw [Lib.compareBytes, Op.bytesLess]
    by_cases h1 : x < y
    · simp [h1]
    · by_cases h2 : y < x
      · have h3 : x ≠ y := fun e => by subst e; exact h1 h2
        simp [h1, h2, h3]
      · have h3 : x = y := UInt8.le_antisymm (UInt8.not_lt.1 h2) (UInt8.not_lt.1 h1)
        subst h3
        simp [h1, ih]
/-- The order of strings. -/
def sless (a b : ByteArray) : Bool := decide (a.data.toList < b.data.toList)
theorem ltOf_scmp : ltOf scmp = sless := by
  funext a b
  unfold ltOf scmp sless
  rw [cmp_less', bytesLess_eq]
  by_cases h : a.data.toList < b.data.toList
  · simp [h]
  · simp [h]; split <;> omega
theorem sless_ext {a b : ByteArray} (h1 : sless a b = false) (h2 : sless b a = false) : a = b := by
  unfold sless at h1 h2
  have h1' := of_decide_eq_false h1
  have h2' := of_decide_eq_false h2
  exact ByteArray.ext (Array.ext' (List.le_antisymm (List.not_lt.1 h2') (List.not_lt.1 h1')))
theorem swo_sless : SWO sless where
  irrefl a := decide_eq_false (List.lt_irrefl _)
  trans a b c h1 h2 := decide_eq_true (List.lt_trans (of_decide_eq_true h1) (of_decide_eq_true h2))
  ntrans a b c h1 h2 := decide_eq_false (List.not_lt.2 (List.le_trans (List.not_lt.1 (of_decide_eq_false h2)) (List.not_lt.1 (of_decide_eq_false h1))))

section
variable {α : Type} [Inhabited α] {enc : α → Value} {h1 : ∀ x, (enc x).oneCell' = true} {e : Nat} {W : World} {base : Nat} {ok : Nat → Prop} {g cap : Nat} {xs : List α}
theorem scalar_in (hr : (Kd.scalar enc h1).R e W base ok (.slice (some ⟨g, 0, none⟩) xs.length cap) xs) : Holds enc W g 0 xs.toArray ∧ g < W.heap.size := by
  have hown := Kd.own_of_R hr
  rcases hown.2 with ⟨hv, _⟩ | ⟨g', cap', cur, hv, hb, hh, hn, hcm, hcs, ht⟩
  · cases hv
  · cases hv
    refine ⟨fun j hj => ?_, blk_lt hh⟩
    rw [Nat.zero_add]
    refine ⟨?_, blk_frozen hh j⟩
    rw [blk_cell hh j]
    have hj' : j < xs.length := by simpa using hj
    have e1 : cur[j]? = (encs enc xs)[j]? := by
      rw [← ht, List.getElem?_take, if_pos (by omega), Array.getElem?_toList]
    rw [e1, getElem!_pos _ j hj]
    simp [encs, hj']
theorem scalar_out {dk : Array α} {n : Nat} {os : Array Obj} (hr : (Kd.scalar enc h1).R e W base ok (.slice (some ⟨g, 0, none⟩) xs.length cap) xs) (hl : dk.size = xs.length) :
    (Kd.scalar enc h1).R e (sortWorld enc W g 0 n dk os) base ok (.slice (some ⟨g, 0, none⟩) xs.length cap) dk.toList ∧ W.grownBy (sortWorld enc W g 0 n dk os) (some g) := by
  have hown := Kd.own_of_R hr
  have hok := hr.1
  rcases hown.2 with ⟨hv, _⟩ | ⟨g', cap', cur, hv, hb, hh, hn, hcm, hcs, ht⟩
  · cases hv
  · cases hv
    have hlt := blk_lt hh
    have hheap : (sortWorld enc W g 0 n dk os).heap = W.heap.modify g (onCells (putCells enc 0 dk)) ++ os := rfl
    have hsz : (W.heap.modify g (onCells (putCells enc 0 dk))).size = W.heap.size := by simp
    have hg : (sortWorld enc W g 0 n dk os).heap[g]? = some (.cells (putCells enc 0 dk cur) e (0, 0)) := by
      rw [hheap, Array.getElem?_append_left (by rw [hsz]; exact hlt), Array.getElem?_modify, if_pos rfl, hh]
      rfl
    refine ⟨Kd.R_of_own ⟨by simp [encs], .inr ⟨g, cap, _, by simp [hl], hb, hg, by simp [hl]; exact hn, hcm, by simp [putCells, hcs], ?_⟩⟩ hok, ⟨rfl, rfl, rfl, ?_, fun k hk hne => ?_⟩⟩
    · apply List.ext_getElem?
      intro j
      rw [List.getElem?_take]
      by_cases hj : j < dk.size
      · have hjc : j < cur.size := by rw [hcs]; omega
        rw [if_pos (by simp; omega), Array.getElem?_toList]
        simp only [putCells, Array.getElem?_mapIdx, getElem?_pos cur j hjc, Option.map_some]
        rw [if_pos (by simp; exact hj), Nat.sub_zero, getElem!_pos _ j hj]
        simp [encs, hj]
      · rw [if_neg (by simp; omega)]
        symm
        rw [List.getElem?_eq_none_iff]; simp [encs]; omega
    · rw [hheap, Array.size_append, hsz]; omega
    · rw [hheap, Array.getElem?_append_left (by rw [hsz]; exact hk), Array.getElem?_modify, if_neg (fun e1 => hne (by rw [e1]))]
end

theorem sortStrs_none (w : World) : Calls Tryd.prog 58 #[.slice none 0 0, .func (.func 38) #[] #[]] w fun e w' => e = .returned (.tuple #[]) ∧ w' = w :=
  AnyF.slices_SortFunc_none (P := Tryd.prog) (ρ := sortStrsRen) { sortStrs with } none 0 _ w

set_option maxHeartbeats 1000000 in
theorem sortStrs_row (W : World) (base : Nat) (ok : Nat → Prop) (v : Value) (xs : List ByteArray) (hr : Kd.string.R 9 W base ok v xs) (hn : xs.length < 4611686018427387904) :
    Calls Tryd.prog 58 #[v, .func (.func 38) #[] #[]] W fun e w' => e = .returned (.tuple #[]) ∧ ∃ m : List ByteArray, m.length = xs.length ∧ Kd.string.R 9 w' base ok v m ∧ W.grownBy w' v.ownBlock ∧ m.Perm xs ∧ m.Pairwise (fun a b => sless b a = false) := by
  obtain ⟨inner, hown⟩ := Kd.R_own hr
  rcases hown.2 with ⟨rfl, h0⟩ | ⟨g, cap, cur, rfl, _⟩
  · obtain rfl := List.eq_nil_of_length_eq_zero h0
    refine (sortStrs_none W).mono ?_
    rintro e w' ⟨rfl, rfl⟩
    exact ⟨rfl, [], rfl, hr, World.grownBy.refl _ _, List.Perm.refl _, List.Pairwise.nil⟩
  · obtain ⟨hH, hlt⟩ := scalar_in hr
    have hcmp : CmpLays1 Tryd.prog 38 #[] Value.string scmp g 0 xs.toArray.size W := fun m os dk hs x y =>
      (strCompare.calls x y _).mono fun e w' ⟨h1, h2⟩ => ⟨h1, 0, #[], by rw [h2, grow_empty]; rfl⟩
    have hc := Any.slices_SortFunc sortStrs Value.string (fun _ => rfl) scmp (by rw [ltOf_scmp]; exact swo_sless) 38 #[] g 0 cap xs.toArray W (enters_of Tryd.func38 (by kernel_rfl) rfl) hcmp hH hlt (by simpa using hn)
    rw [List.size_toArray] at hc
    refine hc.mono ?_
    rintro e w' ⟨rfl, dk, n, os, hp, hso, rfl⟩
    have hl : dk.size = xs.length := by have := hp.1; simpa using this
    obtain ⟨h1, h2⟩ := scalar_out (n := n) (os := os) hr hl
    refine ⟨rfl, dk.toList, by simpa using hl, h1, h2, ?_, ?_⟩
    · have h3 := hp.2.2
      have e1 : dk.extract 0 xs.length = dk := by rw [← hl]; exact Array.extract_size
      have e2 : xs.toArray.extract 0 xs.length = xs.toArray := Array.extract_size
      rw [e1, e2] at h3
      simpa using h3
    · rw [List.pairwise_iff_getElem]
      intro i j hi hj hij
      have := hso i j (Nat.zero_le _) hij (by simp at hj; omega)
      rw [ltOf_scmp, getElem!_pos _ j (by simpa using hj), getElem!_pos _ i (by simpa using hi)] at this
      simpa using this
end Go.Proofs.YtdfndbegifdejaaDoor.GD
