import Derived.Test.YtdfndbegifdejaaFyg
import Derived.Sort.WalkA
import Derived.Sort.LotA
section
namespace Go.Proofs.YtdfndbegifdejaaStab
set_option linter.unusedSectionVars false
set_option linter.unusedVariables false
set_option linter.unusedSimpArgs false
open Go.Sort
section
variable {α : Type} (key : α → Int)
def KSorted (l : List α) : Prop := l.Pairwise (fun x y => key x ≤ key y)
def Cls (k : Int) (l : List α) : List α := l.filter (fun x => decide (key x = k))
theorem cls_append (k : Int) (a b : List α) : Cls key k (a ++ b) = Cls key k a ++ Cls key k b := List.filter_append ..
theorem mem_cls {k : Int} {x : α} {l : List α} : x ∈ Cls key k l ↔ x ∈ l ∧ key x = k := by simp [Cls]
theorem mem_of_cls {a b : List α} (h : ∀ k, Cls key k a = Cls key k b) {x : α} (hx : x ∈ a) : x ∈ b := by
  have h1 : x ∈ Cls key (key x) a := (mem_cls key).2 ⟨hx, rfl⟩
  rw [h] at h1
  exact ((mem_cls key).1 h1).1
theorem cls_nil_of {k : Int} {l : List α} (h : ∀ x ∈ l, key x ≠ k) : Cls key k l = [] := by
  unfold Cls; exact List.filter_eq_nil_iff.2 fun x hx => by simpa using h x hx
theorem cls_swap (k : Int) (X Y : List α) (h : ∀ x ∈ X, ∀ y ∈ Y, key y < key x) : Cls key k (Y ++ X) = Cls key k (X ++ Y) := by
  rw [cls_append, cls_append]
  by_cases hy : ∃ y ∈ Y, key y = k
  · obtain ⟨y, hy, rfl⟩ := hy
    rw [cls_nil_of key (l := X) (fun x hx he => by have := h x hx y hy; omega)]
    simp
  · rw [cls_nil_of key (l := Y) (fun y h1 he => hy ⟨y, h1, he⟩)]
    simp
theorem sorted_unique : ∀ (a b : List α), KSorted key a → KSorted key b → (∀ k, Cls key k a = Cls key k b) → a = b
  | [], [], _, _, _ => rfl
  | [], y :: b, _, _, h => absurd (mem_of_cls key (fun k => (h k).symm) (x := y) (by simp)) (by simp)
  | x :: a, [], _, _, h => absurd (mem_of_cls key h (x := x) (by simp)) (by simp)
  | x :: a, y :: b, ha, hb, h => by
    have ha' := List.pairwise_cons.1 ha
    have hb' := List.pairwise_cons.1 hb
    have h1 : key y ≤ key x := by
      rcases List.mem_cons.1 (mem_of_cls key h (x := x) (by simp)) with rfl | hm
      · exact Int.le_refl _
      · exact hb'.1 x hm
    have h2 : key x ≤ key y := by
      rcases List.mem_cons.1 (mem_of_cls key (fun k => (h k).symm) (x := y) (by simp)) with rfl | hm
      · exact Int.le_refl _
      · exact ha'.1 y hm
    have h3 : key x = key y := by omega
    have h4 := h (key x)
    have e1 : Cls key (key x) (x :: a) = x :: Cls key (key x) a := by simp [Cls]
    have e2 : Cls key (key x) (y :: b) = y :: Cls key (key x) b := by simp [Cls, h3]
    rw [e1, e2] at h4
    injection h4 with h5 h6
    subst h5
    refine congrArg (x :: ·) (sorted_unique a b ha'.2 hb'.2 fun k => ?_)
    by_cases hk : key x = k
    · subst hk; exact h6
    · have := h k
      have e3 : Cls key k (x :: a) = Cls key k a := by simp [Cls, hk]
      have e4 : Cls key k (x :: b) = Cls key k b := by simp [Cls, hk]
      rw [e3, e4] at this; exact this
end
section
variable {α : Type} [Inhabited α]
def slc (d : Array α) (a b : Nat) : List α := (List.range' a (b - a)).map (fun t => d[t]!)
theorem slc_shift (d d' : Array α) (p q n : Nat) (h : ∀ i, i < n → d'[p + i]! = d[q + i]!) : slc d' p (p + n) = slc d q (q + n) := by
  unfold slc
  rw [Nat.add_sub_cancel_left, Nat.add_sub_cancel_left, List.range'_eq_map_range, List.range'_eq_map_range, List.map_map, List.map_map]
  exact List.map_congr_left fun i hi => h i (List.mem_range.1 hi)
theorem slc_congr (d d' : Array α) (a b : Nat) (h : ∀ t, a ≤ t → t < b → d'[t]! = d[t]!) : slc d' a b = slc d a b := by
  unfold slc
  refine List.map_congr_left fun t ht => ?_
  have := List.mem_range'_1.1 ht
  exact h t this.1 (by omega)
theorem slc_append (d : Array α) (a m b : Nat) (h1 : a ≤ m) (h2 : m ≤ b) : slc d a b = slc d a m ++ slc d m b := by
  unfold slc
  rw [← List.map_append]
  have := @List.range'_append_1 a (m - a) (b - m)
  rw [show a + (m - a) = m by omega, show m - a + (b - m) = b - a by omega] at this
  rw [this]
theorem mem_slc {d : Array α} {a b : Nat} {x : α} : x ∈ slc d a b ↔ ∃ t, a ≤ t ∧ t < b ∧ d[t]! = x := by
  unfold slc
  rw [List.mem_map]
  constructor
  · rintro ⟨t, ht, rfl⟩
    have := List.mem_range'_1.1 ht
    exact ⟨t, this.1, by omega, rfl⟩
  · rintro ⟨t, h1, h2, rfl⟩
    exact ⟨t, List.mem_range'_1.2 ⟨h1, by omega⟩, rfl⟩
theorem slc_all (d : Array α) : slc d 0 d.size = d.toList := by
  unfold slc
  rw [Nat.sub_zero, ← List.range_eq_range']
  apply List.ext_getElem
  · simp
  · intro i h1 h2
    simp at h1 h2 ⊢
    simp [h1]
structure Seg (key : α → Int) (a b : Nat) (d d' : Array α) : Prop where
  size : d'.size = d.size
  out : ∀ t, (t < a ∨ b ≤ t) → d'[t]! = d[t]!
  cls : ∀ k, Cls key k (slc d' a b) = Cls key k (slc d a b)
def Srt (key : α → Int) (a b : Nat) (d : Array α) : Prop := ∀ i j, a ≤ i → i ≤ j → j < b → key d[i]! ≤ key d[j]!
variable {key : α → Int} {a b m : Nat} {d d' d'' : Array α}
theorem Seg.refl : Seg key a b d d := ⟨rfl, fun _ _ => rfl, fun _ => rfl⟩
theorem Seg.trans (h : Seg key a b d d') (h' : Seg key a b d' d'') : Seg key a b d d'' :=
  ⟨h'.size.trans h.size, fun t ht => (h'.out t ht).trans (h.out t ht), fun k => (h'.cls k).trans (h.cls k)⟩
theorem Seg.widen (h : Seg key a b d d') (a' b' : Nat) (h1 : a' ≤ a) (h2 : a ≤ b) (h3 : b ≤ b') : Seg key a' b' d d' := by
  refine ⟨h.size, fun t ht => h.out t (by omega), fun k => ?_⟩
  rw [slc_append d' a' a b' h1 (by omega), slc_append d' a b b' h2 h3, slc_append d a' a b' h1 (by omega), slc_append d a b b' h2 h3,
    slc_congr d d' a' a (fun t _ ht => h.out t (.inl ht)), slc_congr d d' b b' (fun t ht _ => h.out t (.inr ht))]
  simp only [cls_append, h.cls]
theorem Seg.mem (h : Seg key a b d d') {i : Nat} (h1 : a ≤ i) (h2 : i < b) : ∃ t, a ≤ t ∧ t < b ∧ d'[i]! = d[t]! := by
  have := mem_of_cls key h.cls (mem_slc.2 ⟨i, h1, h2, rfl⟩)
  obtain ⟨t, h3, h4, h5⟩ := mem_slc.1 this
  exact ⟨t, h3, h4, h5.symm⟩
theorem Srt.mono (h : Srt key a b d) (a' b' : Nat) (h1 : a ≤ a') (h2 : b' ≤ b) : Srt key a' b' d := fun i j hi hij hj => h i j (by omega) hij (by omega)
theorem Srt.congr (h : Srt key a b d) (e : ∀ t, a ≤ t → t < b → d'[t]! = d[t]!) : Srt key a b d' := fun i j hi hij hj => by
  rw [e i hi (by omega), e j (by omega) hj]; exact h i j hi hij hj
theorem Srt.shift (n : Nat) (p q : Nat) (h : Srt key q (q + n) d) (e : ∀ i, i < n → d'[p + i]! = d[q + i]!) : Srt key p (p + n) d' := fun i j hi hij hj => by
  have h1 := e (i - p) (by omega)
  have h2 := e (j - p) (by omega)
  rw [show p + (i - p) = i by omega] at h1
  rw [show p + (j - p) = j by omega] at h2
  rw [h1, h2]
  exact h _ _ (by omega) (by omega) (by omega)
theorem Srt.join (h1 : Srt key a m d) (h2 : Srt key m b d) (hx : ∀ i j, a ≤ i → i < m → m ≤ j → j < b → key d[i]! ≤ key d[j]!) : Srt key a b d := fun i j hi hij hj => by
  by_cases c1 : j < m
  · exact h1 i j hi hij c1
  · by_cases c2 : m ≤ i
    · exact h2 i j c2 hij hj
    · exact hx i j hi (by omega) (by omega) hj
theorem ksorted_slc (h : Srt key a b d) : KSorted key (slc d a b) := by
  unfold KSorted slc
  rw [List.pairwise_map]
  refine List.Pairwise.imp_of_mem ?_ (List.pairwise_lt_range' (s := a) (n := b - a) (step := 1) )
  intro x y hx hy hxy
  have h1 := List.mem_range'_1.1 hx
  have h2 := List.mem_range'_1.1 hy
  exact h x y h1.1 (by omega) (by omega)
def rotI (l m r t : Nat) : Nat := if t < l then t else if t < l + (r - m) then m + (t - l) else if t < r then l + (t - l - (r - m)) else t
theorem rotI_in1 {l m r i : Nat} (hi : i < r - m) : rotI l m r (l + i) = m + i := by
  unfold rotI; rw [if_neg (by omega), if_pos (by omega)]; omega
theorem rotI_in2 {l m r i : Nat} (hl : l ≤ m) (hm : m ≤ r) (hi : i < m - l) : rotI l m r (l + (r - m) + i) = l + i := by
  unfold rotI; rw [if_neg (by omega), if_neg (by omega), if_pos (by omega)]; omega
theorem rotI_out {l m r t : Nat} (hl : l ≤ m) (hm : m ≤ r) (h : t < l ∨ r ≤ t) : rotI l m r t = t := by
  unfold rotI
  by_cases c : t < l
  · rw [if_pos c]
  · rw [if_neg c, if_neg (by omega), if_neg (by omega)]
structure Rot (l m r : Nat) (d d' : Array α) : Prop where
  size : d'.size = d.size
  at_ : ∀ t, d'[t]! = d[rotI l m r t]!
variable {l r : Nat}
theorem Rot.seg (h : Rot l m r d d') (hl : l ≤ m) (hm : m ≤ r) (hk : ∀ i j, l ≤ i → i < m → m ≤ j → j < r → key d[j]! < key d[i]!) : Seg key l r d d' := by
  refine ⟨h.size, fun t ht => by rw [h.at_, rotI_out hl hm ht], fun k => ?_⟩
  have e1 := slc_shift d d' l m (r - m) (fun i hi => by rw [h.at_, rotI_in1 hi])
  have e2 := slc_shift d d' (l + (r - m)) l (m - l) (fun i hi => by rw [h.at_, rotI_in2 hl hm hi])
  rw [show m + (r - m) = r by omega] at e1
  rw [show l + (r - m) + (m - l) = r by omega, show l + (m - l) = m by omega] at e2
  rw [slc_append d' l (l + (r - m)) r (by omega) (by omega), e1, e2, slc_append d l m r hl hm]
  refine cls_swap key k _ _ fun x hx y hy => ?_
  obtain ⟨i, h1, h2, rfl⟩ := mem_slc.1 hx
  obtain ⟨j, h3, h4, rfl⟩ := mem_slc.1 hy
  exact hk i j h1 h2 h3 h4
theorem Rot.none (d : Array α) (l r : Nat) (h : l ≤ r) : Rot l l r d d ∧ Rot l r r d d := by
  refine ⟨⟨rfl, fun t => ?_⟩, ⟨rfl, fun t => ?_⟩⟩
  · congr 1; unfold rotI; split <;> (try split) <;> (try split) <;> omega
  · congr 1; unfold rotI; split <;> (try split) <;> (try split) <;> omega
theorem swap_seg (d : Array α) (j : Nat) (hj : j + 1 < d.size) (hk : key d[j + 1]! < key d[j]!) : Seg key j (j + 2) d (swp d (j + 1) j) := by
  have h : Rot j (j + 1) (j + 2) d (swp d (j + 1) j) := ⟨size_swp _ _ _, fun t => by
    rw [swp_get d hj (by omega)]
    unfold rotI
    by_cases h1 : t = j
    · subst h1; rw [if_pos rfl, if_neg (by omega), if_pos (by omega)]; congr 1; omega
    · rw [if_neg h1]
      by_cases h2 : t = j + 1
      · subst h2; rw [if_pos rfl, if_neg (by omega), if_neg (by omega), if_pos (by omega)]; congr 1; omega
      · rw [if_neg h2]; congr 1; split <;> (try split) <;> (try split) <;> omega⟩
  exact h.seg (by omega) (by omega) fun i k h1 h2 h3 h4 => by
    obtain rfl : i = j := by omega
    obtain rfl : k = i + 1 := by omega
    exact hk
def ltk (key : α → Int) (x y : α) : Bool := decide (key x < key y)
theorem swo_ltk (key : α → Int) : SWO (ltk key) where
  irrefl x := by simp [ltk]
  trans x y z h1 h2 := by simp [ltk] at *; omega
  ntrans x y z h1 h2 := by simp [ltk] at *; omega
theorem insInner_seg (a : Nat) : ∀ (j : Nat) (d : Array α) (b : Nat), j < b → b ≤ d.size → a ≤ j → Seg key a b d (insInner (ltk key) a j d)
  | 0, d, b, _, _, _ => by rw [insInner]; exact Seg.refl
  | j + 1, d, b, h1, h2, h3 => by
    rw [insInner]
    split
    · rename_i hc
      simp only [Bool.and_eq_true, decide_eq_true_eq, ltk] at hc
      exact ((swap_seg d j (by omega) hc.2).widen a b (by omega) (by omega) (by omega)).trans (insInner_seg a j _ b (by omega) (by rw [size_swp]; omega) (by omega))
    · exact Seg.refl
theorem insOuter_seg (a b : Nat) : ∀ (n i : Nat) (d : Array α), b - i ≤ n → b ≤ d.size → a ≤ i → Seg key a b d (insOuter (ltk key) a b i d)
  | 0, i, d, h, hb, ha => by rw [insOuter_stop _ _ _ _ _ (by omega)]; exact Seg.refl
  | n + 1, i, d, h, hb, ha => by
    by_cases hi : i < b
    · rw [insOuter_go _ _ _ _ _ hi]
      have h1 := insInner_seg (key := key) a i d b hi hb ha
      exact h1.trans (insOuter_seg a b n (i + 1) _ (by omega) (by rw [h1.size]; exact hb) (by omega))
    · rw [insOuter_stop _ _ _ _ _ hi]; exact Seg.refl
theorem insertion_seg (d : Array α) (a b : Nat) (hab : a ≤ b) (hb : b ≤ d.size) : Seg key a b d (insertionSort (ltk key) d a b) ∧ Srt key a b (insertionSort (ltk key) d a b) := by
  refine ⟨insOuter_seg a b _ _ d (Nat.le_refl _) hb (by omega), ?_⟩
  have h := (insertionSort_holds (lt := ltk key) (swo_ltk key) d a b hab hb).2
  intro i j hi hij hj
  rcases Nat.lt_or_ge i j with h1 | h1
  · have := h i j hi h1 hj
    simp [ltk] at this; exact this
  · obtain rfl : i = j := by omega
    exact Int.le_refl _
theorem merge_parts {s e mid : Nat} {d1 d2 d3 : Array α} (has : a ≤ s) (hsm : s ≤ m) (hme : m ≤ e) (heb : e ≤ b) (hmid : mid = s + (e - m))
    (hX : Srt key a m d) (hY : Srt key m b d)
    (hlo : ∀ i j, s ≤ i → i < m → m ≤ j → j < e → key d[j]! < key d[i]!) (hhi : ∀ i j, a ≤ i → i < s → e ≤ j → j < b → key d[i]! ≤ key d[j]!)
    (h1 : Rot s m e d d1) (h2 : Seg key a mid d1 d2) (h2s : Srt key a mid d2) (h3 : Seg key mid b d2 d3) (h3s : Srt key mid b d3) : Seg key a b d d3 ∧ Srt key a b d3 := by
  subst hmid
  have g1 := (h1.seg hsm hme hlo).widen a b (by omega) (by omega) (by omega)
  have g2 := h2.widen a b (by omega) (by omega) (by omega)
  have g3 := h3.widen a b (by omega) (by omega) (by omega)
  refine ⟨(g1.trans g2).trans g3, Srt.join (m := s + (e - m)) (h2s.congr fun t _ ht => h3.out t (.inl ht)) h3s fun i j hi him hmj hj => ?_⟩
  rw [h3.out i (.inl him)]
  obtain ⟨j', hj1, hj2, ej⟩ := h3.mem hmj hj
  obtain ⟨i', hi1, hi2, ei⟩ := h2.mem hi him
  rw [ej, h2.out j' (.inr hj1), ei, h1.at_ i', h1.at_ j']
  have ri : (i' < s ∧ rotI s m e i' = i') ∨ (m ≤ rotI s m e i' ∧ rotI s m e i' < e) := by
    by_cases c : i' < s
    · exact .inl ⟨c, rotI_out hsm hme (.inl c)⟩
    · right
      obtain ⟨q, rfl⟩ : ∃ q, i' = s + q := ⟨i' - s, by omega⟩
      rw [rotI_in1 (by omega)]; omega
  have rj : (e ≤ j' ∧ rotI s m e j' = j') ∨ (s ≤ rotI s m e j' ∧ rotI s m e j' < m) := by
    by_cases c : e ≤ j'
    · exact .inl ⟨c, rotI_out hsm hme (.inr c)⟩
    · right
      obtain ⟨q, rfl⟩ : ∃ q, j' = s + (e - m) + q := ⟨j' - (s + (e - m)), by omega⟩
      rw [rotI_in2 hsm hme (by omega)]; omega
  rcases ri with ⟨c1, e1⟩ | ⟨c1, e1⟩ <;> rcases rj with ⟨c2, e2⟩ | ⟨c2, e2⟩
  · rw [e1, e2]; exact hhi _ _ hi1 c1 c2 hj2
  · rw [e1]; exact hX _ _ hi1 (by omega) e2
  · rw [e2]; exact hY _ _ c1 (by omega) hj2
  · exact Int.le_of_lt (hlo _ _ c2 e2 c1 e1)
end
end Go.Proofs.YtdfndbegifdejaaStab
end
