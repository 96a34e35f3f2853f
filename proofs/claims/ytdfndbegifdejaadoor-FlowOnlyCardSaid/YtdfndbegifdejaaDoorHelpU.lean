/- Plain laws: what lies untouched. -/
import Derived.Test.YtdfndbegifdejaaDoorGDx7
import Derived.Test.YtdfndbegifdejaaDoorRmy
namespace Go.Proofs.YtdfndbegifdejaaDoor.GD
set_option linter.unusedVariables false
set_option linter.unusedSimpArgs false
open Go.RowKit Go.Proofs.YtdfndbegifdejaaDoorW.PrintWords Go.Proofs.YtdfndbegifdejaaDoorW.PrintLast Go.Proofs.YtdfndbegifdejaaDoorW.PrintMore Go.Proofs.YtdfndbegifdejaaDoorMine

theorem wrap_nat {n m : Nat} (h : n < m) (hm : m ≤ 140737488355328) : wrap64 ((n : Int) + 1) = ((n + 1 : Nat) : Int) := by
  unfold wrap64; omega
theorem rd_nat (xs : List S32) (n : Nat) : rd_T32 xs (n : Int) = xs.getD n z32 := rfl
theorem rd_eta (x : S32) : (⟨x.f0, x.f1, x.f2⟩ : S32) = x := rfl
theorem neS (x y : S32) : ((!(x.f0 == y.f0) || (!(x.f1.toList == y.f1.toList) || !(x.f2 == y.f2))) = true) ↔ ¬ (x.f0 = y.f0 ∧ x.f1.toList = y.f1.toList ∧ x.f2 = y.f2) := by
  simp only [Bool.or_eq_true, Bool.not_eq_true', beq_eq_false_iff_ne, ne_eq]
  by_cases h1 : x.f0 = y.f0 <;> by_cases h2 : x.f1.toList = y.f1.toList <;> by_cases h3 : x.f2 = y.f2 <;> simp [h1, h2, h3]

theorem untouched_l1 (l : List S32) (hl : l.length ≤ 140737488355000) : ∀ (d n k : Nat), n + d = 3 → d < k → payofflaw03_untouched.l1 k (l ++ marks l.length) ((l.length + n : Nat) : Int) = some true := by
  intro d
  induction d with
  | zero =>
    intro n k hn hk
    obtain ⟨k, rfl⟩ : ∃ m, k = m + 1 := ⟨k - 1, by omega⟩
    simp only [payofflaw03_untouched.l1]
    rw [if_neg (by simp [marks]; omega)]
  | succ d ih =>
    intro n k hn hk
    obtain ⟨k, rfl⟩ : ∃ m, k = m + 1 := ⟨k - 1, by omega⟩
    simp only [payofflaw03_untouched.l1]
    have hr : rd_T32 (l ++ marks l.length) ((l.length + n : Nat) : Int) = mark ((l.length + n : Nat) : Int) := by
      rw [rd_nat, List.getD_eq_getElem?_getD, List.getElem?_append_right (by omega), Nat.add_sub_cancel_left]
      have : n = 0 ∨ n = 1 ∨ n = 2 := by omega
      rcases this with rfl | rfl | rfl <;> rfl
    rw [if_pos (by simp [marks]; omega), if_pos (by omega), hr, if_neg (by
      have : markS.toList = [109, 97, 114, 107] := by decide +kernel
      simp [mark, this]), wrap_nat (m := l.length + 3) (by omega) (by omega)]
    exact ih (n + 1) k (by omega) (by omega)

theorem untouched_l0 (l : List S32) (hl : l.length ≤ 140737488355000) : ∀ (d n k : Nat), n + d = l.length → d + 4 < k → payofflaw03_untouched.l0 k (l ++ marks l.length) l (n : Int) = some true := by
  intro d
  induction d with
  | zero =>
    intro n k hn hk
    obtain ⟨k, rfl⟩ : ∃ m, k = m + 1 := ⟨k - 1, by omega⟩
    simp only [payofflaw03_untouched.l0]
    rw [if_neg (by omega)]
    exact untouched_l1 l hl 3 0 k (by omega) (by omega)
  | succ d ih =>
    intro n k hn hk
    obtain ⟨k, rfl⟩ : ∃ m, k = m + 1 := ⟨k - 1, by omega⟩
    simp only [payofflaw03_untouched.l0]
    have hr : rd_T32 (l ++ marks l.length) (n : Int) = rd_T32 l (n : Int) := by
      rw [rd_nat, rd_nat, List.getD_eq_getElem?_getD, List.getD_eq_getElem?_getD, List.getElem?_append_left (by omega)]
    rw [if_pos (by omega), if_pos (by omega), if_pos (by simp; omega), hr, if_neg (by rw [neS]; simp), wrap_nat (m := l.length) (by omega) (by omega)]
    exact ih (n + 1) k (by omega) (by omega)
theorem untouched_room (l : List S32) (hl : l.length ≤ 140737488355000) (k : Nat) (hk : l.length + 4 < k) : payofflaw03_untouched.f k (l ++ marks l.length) l = some true := untouched_l0 l hl l.length 0 k (by omega) hk

end Go.Proofs.YtdfndbegifdejaaDoor.GD
