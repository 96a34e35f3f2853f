import Derived.Test.YtkfbkjcdngipcaaPTreeEqualsx2
import Derived.Test.YtkfbkjcdngipcaaPTreeEqualsx3
import Derived.Test.YtkfbkjcdngipcaaPTreeEqualsx4
import Derived.Test.YtkfbkjcdngipcaaTlyC
/-! Equal or not, told as a truth; the loops that compare lists come to it. -/
namespace Go.Proofs.Ytkfbkjcdngipcaa.PTreeEquals
open Go.RowKit Go.Proofs.YtkfbkjcdngipcaaW.PrintWords Go.Proofs.YtkfbkjcdngipcaaW.PrintLast Go.Proofs.YtkfbkjcdngipcaaW.PrintMore
set_option linter.unusedVariables false
noncomputable def sm {α : Type} (x y : α) : Bool := @decide (x = y) (Classical.propDecidable _)
theorem sm_self {α : Type} (x : α) : sm x x = true := by unfold sm; exact @decide_eq_true _ (Classical.propDecidable _) rfl
theorem sm_true {α : Type} {x y : α} (h : x = y) : sm x y = true := by subst h; exact sm_self x
theorem sm_false {α : Type} {x y : α} (h : ¬ x = y) : sm x y = false := by unfold sm; exact @decide_eq_false _ (Classical.propDecidable _) h
theorem sm_iff {α : Type} {x y : α} : sm x y = true ↔ x = y := ⟨fun h => by unfold sm at h; exact @of_decide_eq_true _ (Classical.propDecidable _) h, sm_true⟩
theorem sm_cons {α : Type} (a b : α) (l m : List α) : sm (a :: l) (b :: m) = (sm a b && sm l m) := by
  by_cases h : a = b
  · subst h
    by_cases h2 : l = m
    · subst h2; simp [sm_self]
    · rw [sm_false (by simpa using h2), sm_false h2]; simp
  · rw [sm_false (by simp [h]), sm_false h]; simp
theorem sm_len {α : Type} {l m : List α} (h : ¬ l.length = m.length) : sm l m = false := sm_false (fun e => h (by rw [e]))
theorem sm_drop {α : Type} (l m : List α) (i : Nat) (h : i < l.length) (h' : i < m.length) : sm (l.drop i) (m.drop i) = (sm l[i] m[i] && sm (l.drop (i + 1)) (m.drop (i + 1))) := by
  rw [List.drop_eq_getElem_cons h, List.drop_eq_getElem_cons h', sm_cons]
theorem sm_end {α : Type} (l m : List α) (i : Nat) (h : l.length ≤ i) (h' : m.length ≤ i) : sm (l.drop i) (m.drop i) = true := by
  rw [List.drop_of_length_le h, List.drop_of_length_le h']; exact sm_self _
theorem rd23_at {l : List S23} {i : Nat} (h : i < l.length) : rd_T23 l (i : Int) = l[i] := by simp [rd_T23, h]
theorem rd9_at {l : List ByteArray} {i : Nat} (h : i < l.length) : rdOf ByteArray.empty l (i : Int) = l[i] := by simp [rdOf, h]
theorem rd54_at {l : List S54} {i : Nat} (h : i < l.length) : rd_T54 l (i : Int) = l[i] := by simp [rd_T54, h]
theorem rd34_at {l : List S34} {i : Nat} (h : i < l.length) : rd_T34 l (i : Int) = l[i] := by simp [rd_T34, h]
theorem rd56_at {l : List S56} {i : Nat} (h : i < l.length) : rd_T56 l (i : Int) = l[i] := by simp [rd_T56, h]
theorem w64_next (i : Nat) (h : i < 9223372036854775807) : wrap64 ((i : Int) + 1) = ((i + 1 : Nat) : Int) := by unfold wrap64; omega
theorem s23_eq (x y : S23) : (!(x.f0 == y.f0) || (!(x.f1 == y.f1) || (!(x.f2 == y.f2)))) = !(sm x y) := by
  by_cases h : x = y
  · subst h; simp [sm_self]
  · rw [sm_false h]
    obtain ⟨x0, x1, x2⟩ := x
    obtain ⟨y0, y1, y2⟩ := y
    simp only [S23.mk.injEq, not_and] at h
    by_cases h0 : x0 = y0
    · by_cases h1 : x1 = y1
      · simp [h0, h1, h h0 h1]
      · simp [h1]
    · simp [h0]
theorem toList_iff (a b : ByteArray) : a.toList = b.toList ↔ a = b := ⟨fun h => by
  rw [ByteArray.toList_eq, ByteArray.toList_eq] at h
  cases a; cases b
  simp only [ByteArray.mk.injEq]
  exact Array.toList_inj.1 h, fun h => by rw [h]⟩
theorem datesEq_loop (l m : List S23) (hm : l.length = m.length) (hl : l.length ≤ 9223372036854775807) : ∀ (j i : Nat), i + j = l.length → api_Date.l0 (j + 1) l m (l.length : Int) (i : Int) = some (sm (l.drop i) (m.drop i)) := by
  intro j
  induction j with
  | zero =>
    intro i h
    rw [sm_end l m i (by omega) (by omega)]
    unfold api_Date.l0
    rw [if_neg (by omega)]
  | succ j ih =>
    intro i h
    have h1 : i < l.length := by omega
    unfold api_Date.l0
    rw [if_pos (by omega), if_pos (by omega), if_pos (by omega), if_pos (by omega), rd23_at h1, rd23_at (show i < m.length by omega), s23_eq, w64_next i (by omega), ih (i + 1) (by omega), sm_drop l m i h1 (by omega)]
    cases sm l[i] m[i] <;> simp
theorem datesEq (l m : List S23) (hl : l.length ≤ 9223372036854775807) : ∃ k, api_Date.f k l m = some (sm l m) := by
  by_cases h : l.length = m.length
  · refine ⟨l.length + 1, ?_⟩
    unfold api_Date.f
    rw [if_pos (by omega)]
    exact datesEq_loop l m h hl l.length 0 (by omega)
  · refine ⟨0, ?_⟩
    unfold api_Date.f
    rw [if_neg (by omega), sm_len h]
theorem textsEq_loop (l m : List ByteArray) (hm : l.length = m.length) (hl : l.length ≤ 9223372036854775807) : ∀ (j i : Nat), i + j = l.length → slices_Equal_string_string.l0 (j + 1) l m (l.length : Int) (i : Int) = some (sm (l.drop i) (m.drop i)) := by
  intro j
  induction j with
  | zero =>
    intro i h
    rw [sm_end l m i (by omega) (by omega)]
    unfold slices_Equal_string_string.l0
    rw [if_neg (by omega)]
  | succ j ih =>
    intro i h
    have h1 : i < l.length := by omega
    unfold slices_Equal_string_string.l0
    rw [if_pos (by omega), if_pos (by omega), if_pos (by omega), if_pos (by omega), rd9_at h1, rd9_at (show i < m.length by omega), w64_next i (by omega), ih (i + 1) (by omega), sm_drop l m i h1 (by omega)]
    by_cases he : l[i] = m[i]
    · rw [if_pos (by rw [he]), sm_true he]; simp
    · rw [if_neg (fun h => he ((toList_iff _ _).1 h)), sm_false he]; simp
theorem textsEq (l m : List ByteArray) (hl : l.length ≤ 9223372036854775807) : ∃ k, slices_Equal_string_string.f k l m = some (sm l m) := by
  by_cases h : l.length = m.length
  · refine ⟨l.length + 1, ?_⟩
    unfold slices_Equal_string_string.f
    rw [if_pos (by omega)]
    exact textsEq_loop l m h hl l.length 0 (by omega)
  · refine ⟨0, ?_⟩
    unfold slices_Equal_string_string.f
    rw [if_neg (by omega), sm_len h]
theorem sameDates_loop (l m : List S23) (hm : l.length = m.length) (hl : l.length ≤ 9223372036854775807) : ∀ (j i : Nat), i + j = l.length → payoffref07_sameDates.l0 (j + 1) l m (i : Int) = some (sm (l.drop i) (m.drop i)) := by
  intro j
  induction j with
  | zero =>
    intro i h
    rw [sm_end l m i (by omega) (by omega)]
    unfold payoffref07_sameDates.l0
    rw [if_neg (by omega)]
  | succ j ih =>
    intro i h
    have h1 : i < l.length := by omega
    unfold payoffref07_sameDates.l0
    rw [if_pos (by omega), if_pos (by omega), if_pos (by omega), rd23_at h1, rd23_at (show i < m.length by omega), s23_eq, w64_next i (by omega), ih (i + 1) (by omega), sm_drop l m i h1 (by omega)]
    cases sm l[i] m[i] <;> simp
theorem sameDates_sm (l m : List S23) (hl : l.length ≤ 9223372036854775807) : ∃ k, payoffref07_sameDates.f k l m = some (sm l m) := by
  by_cases h : l.length = m.length
  · refine ⟨l.length + 1, ?_⟩
    unfold payoffref07_sameDates.f
    rw [if_pos (by omega)]
    exact sameDates_loop l m h hl l.length 0 (by omega)
  · refine ⟨0, ?_⟩
    unfold payoffref07_sameDates.f
    rw [if_neg (by omega), sm_len h]
theorem sameTexts_loop (l m : List ByteArray) (hm : l.length = m.length) (hl : l.length ≤ 9223372036854775807) : ∀ (j i : Nat), i + j = l.length → payoffref07_sameTexts.l0 (j + 1) l m (i : Int) = some (sm (l.drop i) (m.drop i)) := by
  intro j
  induction j with
  | zero =>
    intro i h
    rw [sm_end l m i (by omega) (by omega)]
    unfold payoffref07_sameTexts.l0
    rw [if_neg (by omega)]
  | succ j ih =>
    intro i h
    have h1 : i < l.length := by omega
    unfold payoffref07_sameTexts.l0
    rw [if_pos (by omega), if_pos (by omega), if_pos (by omega), rd9_at h1, rd9_at (show i < m.length by omega), w64_next i (by omega), ih (i + 1) (by omega), sm_drop l m i h1 (by omega)]
    by_cases he : l[i] = m[i]
    · rw [if_pos (by rw [he]), sm_true he]; simp
    · rw [if_neg (fun h => he ((toList_iff _ _).1 h)), sm_false he]; simp
theorem sameTexts_sm (l m : List ByteArray) (hl : l.length ≤ 9223372036854775807) : ∃ k, payoffref07_sameTexts.f k l m = some (sm l m) := by
  by_cases h : l.length = m.length
  · refine ⟨l.length + 1, ?_⟩
    unfold payoffref07_sameTexts.f
    rw [if_pos (by omega)]
    exact sameTexts_loop l m h hl l.length 0 (by omega)
  · refine ⟨0, ?_⟩
    unfold payoffref07_sameTexts.f
    rw [if_neg (by omega), sm_len h]
end Go.Proofs.Ytkfbkjcdngipcaa.PTreeEquals
