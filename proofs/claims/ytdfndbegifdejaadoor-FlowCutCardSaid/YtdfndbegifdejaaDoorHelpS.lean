/- Plain laws: same, Until. -/
import Derived.Test.YtdfndbegifdejaaDoorGDx13
import Derived.Test.YtdfndbegifdejaaDoorHelpU
namespace Go.Proofs.YtdfndbegifdejaaDoor.GD
set_option linter.unusedVariables false
set_option linter.unusedSimpArgs false
open Go.RowKit Go.Proofs.YtdfndbegifdejaaDoorW.PrintWords Go.Proofs.YtdfndbegifdejaaDoorW.PrintLast Go.Proofs.YtdfndbegifdejaaDoorW.PrintMore Go.Proofs.YtdfndbegifdejaaDoorMine

theorem same_l0 (a b : List S32) (hab : a = b) (hl : a.length ≤ 140737488355328) : ∀ (d n k : Nat), n + d = a.length → d < k → payofflaw03_same.l0 k a b (n : Int) = some true := by
  subst hab
  intro d
  induction d with
  | zero =>
    intro n k hn hk
    obtain ⟨k, rfl⟩ : ∃ m, k = m + 1 := ⟨k - 1, by omega⟩
    simp only [payofflaw03_same.l0]
    rw [if_neg (by omega)]
  | succ d ih =>
    intro n k hn hk
    obtain ⟨k, rfl⟩ : ∃ m, k = m + 1 := ⟨k - 1, by omega⟩
    simp only [payofflaw03_same.l0]
    rw [if_pos (by omega), if_pos (by omega), if_pos (by omega), if_neg (by rw [neS]; simp), wrap_nat (m := a.length) (by omega) hl]
    exact ih (n + 1) k (by omega) (by omega)
theorem same_self (a : List S32) (hl : a.length ≤ 140737488355328) (k : Nat) (hk : a.length < k) : payofflaw03_same.f k a a = some true := by
  unfold payofflaw03_same.f
  rw [if_pos rfl]
  exact same_l0 a a rfl hl a.length 0 k (by omega) hk

def upto_ (day : Int) (l : List S32) : List S32 := l.filter (fun x => decide (x.f0 ≤ day))
theorem upto_len (day : Int) (l : List S32) : (upto_ day l).length ≤ l.length := List.length_filter_le _ _
theorem drop_getD (l : List S32) (n : Nat) (h : n < l.length) : l.drop n = l.getD n z32 :: l.drop (n + 1) := by
  rw [List.drop_eq_getElem_cons h, List.getD_eq_getElem?_getD, List.getElem?_eq_getElem h]; rfl
theorem until_l0 (day : Int) (l : List S32) (hl : l.length < 4398046511104) : ∀ (d n k : Nat) (acc : List S32), n + d = l.length → d < k → acc.length ≤ n → flow_Until.l0 k day acc l (l.length : Int) (n : Int) = some (acc ++ upto_ day (l.drop n)) := by
  intro d
  induction d with
  | zero =>
    intro n k acc hn hk ha
    obtain ⟨k, rfl⟩ : ∃ m, k = m + 1 := ⟨k - 1, by omega⟩
    simp only [flow_Until.l0]
    rw [if_neg (by omega), List.drop_eq_nil_of_le (by omega)]
    simp [upto_]
  | succ d ih =>
    intro n k acc hn hk ha
    obtain ⟨k, rfl⟩ : ∃ m, k = m + 1 := ⟨k - 1, by omega⟩
    simp only [flow_Until.l0]
    rw [if_pos (by omega), if_pos (by omega), if_pos (by omega), wrap_nat (m := l.length) (by omega) (by omega), rd_nat, drop_getD l n (by omega)]
    by_cases h : (l.getD n z32).f0 ≤ day
    · rw [if_pos h, if_pos (by omega), ih (n + 1) k _ (by omega) (by omega) (by simp; omega)]
      simp only [upto_, List.filter_cons, decide_eq_true h, if_true, List.append_assoc]
      rfl
    · rw [if_neg h, ih (n + 1) k _ (by omega) (by omega) (by omega)]
      simp only [upto_, List.filter_cons, decide_eq_false h, Bool.false_eq_true, if_false]
theorem until_f (day : Int) (l : List S32) (hl : l.length < 4398046511104) (k : Nat) (hk : l.length < k) : flow_Until.f k l day = some (upto_ day l) := by
  have := until_l0 day l hl l.length 0 k [] (by omega) hk (by simp)
  simpa [flow_Until.f] using this
end Go.Proofs.YtdfndbegifdejaaDoor.GD
