/- Plain laws of the flow laws' helpers: same of a list with itself, untouched of a roomy copy, Until of the program and of the document. -/
import Derived.Test.YtdfndbegifdejaaPFlowExactx3
import Derived.Test.YtdfndbegifdejaaRoomy
namespace Go.Proofs.Ytdfndbegifdejaa.PFlowExact
set_option linter.unusedVariables false
set_option linter.unusedSimpArgs false
open Go.RowKit Go.Proofs.YtdfndbegifdejaaW.PrintWords Go.Proofs.YtdfndbegifdejaaW.PrintLast Go.Proofs.YtdfndbegifdejaaW.PrintMore Go.Proofs.YtdfndbegifdejaaMine

theorem wrap_nat {n m : Nat} (h : n < m) (hm : m ≤ 140737488355328) : wrap64 ((n : Int) + 1) = ((n + 1 : Nat) : Int) := by
  unfold wrap64; omega
theorem rd_nat (xs : List S32) (n : Nat) : rd_T32 xs (n : Int) = xs.getD n z32 := rfl
theorem rd_eta (x : S32) : (⟨x.f0, x.f1, x.f2⟩ : S32) = x := rfl
theorem neS (x y : S32) : ((!(x.f0 == y.f0) || (!(x.f1.toList == y.f1.toList) || !(x.f2 == y.f2))) = true) ↔ ¬ (x.f0 = y.f0 ∧ x.f1.toList = y.f1.toList ∧ x.f2 = y.f2) := by
  simp only [Bool.or_eq_true, Bool.not_eq_true', beq_eq_false_iff_ne, ne_eq]
  by_cases h1 : x.f0 = y.f0 <;> by_cases h2 : x.f1.toList = y.f1.toList <;> by_cases h3 : x.f2 = y.f2 <;> simp [h1, h2, h3]

theorem same_l0 (a b : List S32) (hab : a = b) (hl : a.length ≤ 140737488355328) : ∀ (d n k : Nat), n + d = a.length → d < k → payofflaw03_same.l0 k a b (n : Int) = some true := by
  subst hab
  intro d
  induction d with
  | zero =>
    intro n k hn hk
    obtain ⟨k, rfl⟩ : ∃ m, k = m + 1 := ⟨k - 1, by omega⟩
    simp only [payofflaw03_same.l0]
    rw [if_neg (by omega)]
  | succ d ih =>
    intro n k hn hk
    obtain ⟨k, rfl⟩ : ∃ m, k = m + 1 := ⟨k - 1, by omega⟩
    simp only [payofflaw03_same.l0]
    rw [if_pos (by omega), if_pos (by omega), if_pos (by omega), if_neg (by rw [neS]; simp), wrap_nat (m := a.length) (by omega) hl]
    exact ih (n + 1) k (by omega) (by omega)
theorem same_self (a : List S32) (hl : a.length ≤ 140737488355328) (k : Nat) (hk : a.length < k) : payofflaw03_same.f k a a = some true := by
  unfold payofflaw03_same.f
  rw [if_pos rfl]
  exact same_l0 a a rfl hl a.length 0 k (by omega) hk

theorem untouched_l1 (l : List S32) (hl : l.length ≤ 140737488355000) : ∀ (d n k : Nat), n + d = 3 → d < k → payofflaw03_untouched.l1 k (l ++ marks l.length) ((l.length + n : Nat) : Int) = some true := by
  intro d
  induction d with
  | zero =>
    intro n k hn hk
    obtain ⟨k, rfl⟩ : ∃ m, k = m + 1 := ⟨k - 1, by omega⟩
    simp only [payofflaw03_untouched.l1]
    rw [if_neg (by simp [marks]; omega)]
  | succ d ih =>
    intro n k hn hk
    obtain ⟨k, rfl⟩ : ∃ m, k = m + 1 := ⟨k - 1, by omega⟩
    simp only [payofflaw03_untouched.l1]
    have hr : rd_T32 (l ++ marks l.length) ((l.length + n : Nat) : Int) = mark ((l.length + n : Nat) : Int) := by
      rw [rd_nat, List.getD_eq_getElem?_getD, List.getElem?_append_right (by omega), Nat.add_sub_cancel_left]
      have : n = 0 ∨ n = 1 ∨ n = 2 := by omega
      rcases this with rfl | rfl | rfl <;> rfl
    rw [if_pos (by simp [marks]; omega), if_pos (by omega), hr, if_neg (by
      have : markS.toList = [109, 97, 114, 107] := by decide +kernel
      simp [mark, this]), wrap_nat (m := l.length + 3) (by omega) (by omega)]
    exact ih (n + 1) k (by omega) (by omega)

theorem untouched_l0 (l : List S32) (hl : l.length ≤ 140737488355000) : ∀ (d n k : Nat), n + d = l.length → d + 4 < k → payofflaw03_untouched.l0 k (l ++ marks l.length) l (n : Int) = some true := by
  intro d
  induction d with
  | zero =>
    intro n k hn hk
    obtain ⟨k, rfl⟩ : ∃ m, k = m + 1 := ⟨k - 1, by omega⟩
    simp only [payofflaw03_untouched.l0]
    rw [if_neg (by omega)]
    exact untouched_l1 l hl 3 0 k (by omega) (by omega)
  | succ d ih =>
    intro n k hn hk
    obtain ⟨k, rfl⟩ : ∃ m, k = m + 1 := ⟨k - 1, by omega⟩
    simp only [payofflaw03_untouched.l0]
    have hr : rd_T32 (l ++ marks l.length) (n : Int) = rd_T32 l (n : Int) := by
      rw [rd_nat, rd_nat, List.getD_eq_getElem?_getD, List.getD_eq_getElem?_getD, List.getElem?_append_left (by omega)]
    rw [if_pos (by omega), if_pos (by omega), if_pos (by simp; omega), hr, if_neg (by rw [neS]; simp), wrap_nat (m := l.length) (by omega) (by omega)]
    exact ih (n + 1) k (by omega) (by omega)
theorem untouched_room (l : List S32) (hl : l.length ≤ 140737488355000) (k : Nat) (hk : l.length + 4 < k) : payofflaw03_untouched.f k (l ++ marks l.length) l = some true := untouched_l0 l hl l.length 0 k (by omega) hk

def upto_ (day : Int) (l : List S32) : List S32 := l.filter (fun x => decide (x.f0 ≤ day))
theorem upto_len (day : Int) (l : List S32) : (upto_ day l).length ≤ l.length := List.length_filter_le _ _
theorem drop_getD (l : List S32) (n : Nat) (h : n < l.length) : l.drop n = l.getD n z32 :: l.drop (n + 1) := by
  rw [List.drop_eq_getElem_cons h, List.getD_eq_getElem?_getD, List.getElem?_eq_getElem h]; rfl
theorem until_l0 (day : Int) (l : List S32) (hl : l.length < 4398046511104) : ∀ (d n k : Nat) (acc : List S32), n + d = l.length → d < k → acc.length ≤ n → flow_Until.l0 k day acc l (l.length : Int) (n : Int) = some (acc ++ upto_ day (l.drop n)) := by
  intro d
  induction d with
  | zero =>
    intro n k acc hn hk ha
    obtain ⟨k, rfl⟩ : ∃ m, k = m + 1 := ⟨k - 1, by omega⟩
    simp only [flow_Until.l0]
    rw [if_neg (by omega), List.drop_eq_nil_of_le (by omega)]
    simp [upto_]
  | succ d ih =>
    intro n k acc hn hk ha
    obtain ⟨k, rfl⟩ : ∃ m, k = m + 1 := ⟨k - 1, by omega⟩
    simp only [flow_Until.l0]
    rw [if_pos (by omega), if_pos (by omega), if_pos (by omega), wrap_nat (m := l.length) (by omega) (by omega), rd_nat, drop_getD l n (by omega)]
    by_cases h : (l.getD n z32).f0 ≤ day
    · rw [if_pos h, if_pos (by omega), ih (n + 1) k _ (by omega) (by omega) (by simp; omega)]
      simp only [upto_, List.filter_cons, decide_eq_true h, if_true, List.append_assoc]
      rfl
    · rw [if_neg h, ih (n + 1) k _ (by omega) (by omega) (by omega)]
      simp only [upto_, List.filter_cons, decide_eq_false h, Bool.false_eq_true, if_false]
theorem until_f (day : Int) (l : List S32) (hl : l.length < 4398046511104) (k : Nat) (hk : l.length < k) : flow_Until.f k l day = some (upto_ day l) := by
  have := until_l0 day l hl l.length 0 k [] (by omega) hk (by simp)
  simpa [flow_Until.f] using this
theorem refUntil_l0 (day : Int) (l : List S32) (hl : l.length < 4398046511104) : ∀ (d n k : Nat) (acc : List S32), n + d = l.length → d < k → acc.length ≤ n → payoffref03_Until.l0 k l day acc (n : Int) = some (acc ++ upto_ day (l.drop n)) := by
  intro d
  induction d with
  | zero =>
    intro n k acc hn hk ha
    obtain ⟨k, rfl⟩ : ∃ m, k = m + 1 := ⟨k - 1, by omega⟩
    simp only [payoffref03_Until.l0]
    rw [if_neg (by omega), List.drop_eq_nil_of_le (by omega)]
    simp [upto_]
  | succ d ih =>
    intro n k acc hn hk ha
    obtain ⟨k, rfl⟩ : ∃ m, k = m + 1 := ⟨k - 1, by omega⟩
    simp only [payoffref03_Until.l0]
    rw [if_pos (by omega), if_pos (by omega), wrap_nat (m := l.length) (by omega) (by omega), rd_nat, drop_getD l n (by omega)]
    by_cases h : (l.getD n z32).f0 ≤ day
    · rw [if_pos h, if_pos (by omega), ih (n + 1) k _ (by omega) (by omega) (by simp; omega)]
      simp only [upto_, List.filter_cons, decide_eq_true h, if_true, List.append_assoc]
      rfl
    · rw [if_neg h, ih (n + 1) k _ (by omega) (by omega) (by omega)]
      simp only [upto_, List.filter_cons, decide_eq_false h, Bool.false_eq_true, if_false]
theorem refUntil_f (day : Int) (l : List S32) (hl : l.length < 4398046511104) (k : Nat) (hk : l.length < k) : payoffref03_Until.f k l day = some (upto_ day l) := by
  have := refUntil_l0 day l hl l.length 0 k [] (by omega) hk (by simp)
  simpa [payoffref03_Until.f] using this
end Go.Proofs.Ytdfndbegifdejaa.PFlowExact
