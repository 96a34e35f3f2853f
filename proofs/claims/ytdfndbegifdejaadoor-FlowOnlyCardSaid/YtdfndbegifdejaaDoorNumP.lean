/- Plain laws of the two readers of numbers: the program's and the document's stop at one place and give one value. -/
import Derived.Test.YtdfndbegifdejaaDoorPsr
import Derived.Lib.Bytealg
namespace Go.Proofs.YtdfndbegifdejaaDoor.GD
set_option linter.unusedVariables false
set_option linter.unusedSimpArgs false
open Go.RowKit Go.Proofs.YtdfndbegifdejaaDoorW.PrintWords Go.Proofs.YtdfndbegifdejaaDoorW.PrintLast Go.Proofs.YtdfndbegifdejaaDoorW.PrintMore

theorem u64_id {n : Int} (h0 : 0 ≤ n) (h1 : n < 18446744073709551616) : IntKind.u64.wrap n = n := by
  simp only [IntKind.wrap, IntKind.signed, IntKind.bits]
  simp
  omega
theorem w64_nat (n : Nat) (h : n ≤ 140737488355328) : wrap64 ((n : Int) + 1) = ((n + 1 : Nat) : Int) := by unfold wrap64; omega
theorem tdiv10 {a : Int} (h : 0 ≤ a) : Int.tdiv a 10 = a / 10 := Int.tdiv_eq_ediv_of_nonneg h

/-- The byte at a place. -/
def by_ (s : ByteArray) (p : Nat) : Int := bt s (p : Int)
theorem by_range (s : ByteArray) (p : Nat) : 0 ≤ by_ s p ∧ by_ s p ≤ 255 := bt_range s _
/-- The value of the first j digits from a place on. -/
def vv (s : ByteArray) (a : Nat) : Nat → Int
  | 0 => 0
  | j + 1 => 10 * vv s a j + (by_ s (a + j) - 48)
/-- Digit number j fits. -/
def Step (s : ByteArray) (L : Int) (a j : Nat) : Prop := a + j < s.size ∧ 48 ≤ by_ s (a + j) ∧ by_ s (a + j) ≤ 57 ∧ ¬ (0 < j ∧ vv s a j = 0) ∧ vv s a j ≤ (L - (by_ s (a + j) - 48)) / 10
instance (s : ByteArray) (L : Int) (a j : Nat) : Decidable (Step s L a j) := by unfold Step; infer_instance
def Good (s : ByteArray) (L : Int) (a m : Nat) : Prop := ∀ j, j < m → Step s L a j
theorem Good.le {s : ByteArray} {L : Int} {a m j : Nat} (h : Good s L a m) (hj : j ≤ m) : Good s L a j := fun i hi => h i (by omega)
theorem vv_range {s : ByteArray} {L : Int} {a m : Nat} (hL : 9 ≤ L) (h : Good s L a m) : 0 ≤ vv s a m ∧ vv s a m ≤ L := by
  induction m with
  | zero => simp only [vv]; omega
  | succ m ih =>
    obtain ⟨h0, h1⟩ := ih (h.le (by omega))
    obtain ⟨_, hb0, hb1, _, hv⟩ := h m (by omega)
    simp only [vv]
    omega
theorem vv_pos {s : ByteArray} {L : Int} {a m : Nat} (hL : 9 ≤ L) (h : Good s L a m) (hm : 0 < m) : vv s a m = 0 ↔ by_ s a = 48 ∧ m = 1 := by
  match m, hm with
  | 1, _ => simp only [vv, Nat.add_zero]; exact ⟨fun h => ⟨by omega, trivial⟩, fun h => by have := h.1; omega⟩
  | m + 2, _ =>
    obtain ⟨_, hb0, _, hz, _⟩ := h (m + 1) (by omega)
    have hv := (vv_range hL (h.le (show m + 1 ≤ m + 2 by omega))).1
    have hne : vv s a (m + 1) ≠ 0 := fun e => hz ⟨by omega, e⟩
    rw [show vv s a (m + 2) = 10 * vv s a (m + 1) + (by_ s (a + (m + 1)) - 48) from rfl]
    constructor
    · intro h; omega
    · intro h; omega
theorem stop_exists (s : ByteArray) (L : Int) (a : Nat) (ha : a ≤ s.size) : ∃ m, Good s L a m ∧ ¬ Step s L a m ∧ a + m ≤ s.size := by
  have key : ∀ d m, a + m + d = s.size → Good s L a m → ∃ m, Good s L a m ∧ ¬ Step s L a m ∧ a + m ≤ s.size := by
    intro d
    induction d with
    | zero => intro m hm hg; exact ⟨m, hg, fun h => by have := h.1; omega, by omega⟩
    | succ d ih =>
      intro m hm hg
      by_cases hs : Step s L a m
      · refine ih (m + 1) (by omega) (fun j hj => ?_)
        rcases Nat.lt_or_ge j m with h | h
        · exact hg j h
        · have : j = m := by omega
          rw [this]; exact hs
      · exact ⟨m, hg, hs, by omega⟩
  exact key (s.size - a) 0 (by omega) (fun j hj => by omega)

/-! ### the program's -/
theorem next_in (s : ByteArray) (p : Nat) (h : p < s.size) : flow_reader_next.f s (p : Int) = some (by_ s p, true, s, (p : Int)) := by
  unfold flow_reader_next.f
  rw [if_neg (by omega), if_pos (by omega), if_pos (by omega)]
  rfl
theorem next_end (s : ByteArray) : flow_reader_next.f s (s.size : Int) = some (0, false, s, (s.size : Int)) := by
  unfold flow_reader_next.f
  rw [if_pos rfl]
def numAns (s : ByteArray) (a m : Nat) : Int × Bool × ByteArray × Int :=
  if a + m < s.size ∧ 48 ≤ by_ s (a + m) ∧ by_ s (a + m) ≤ 57 then (0, false, s, ((a + m : Nat) : Int)) else (vv s a m, decide (0 < m), s, ((a + m : Nat) : Int))
theorem number_l0 (s : ByteArray) (L : Int) (hL : 9 ≤ L) (hL2 : L ≤ 9223372036854775808) (hsz : s.size ≤ 1048576) (a m : Nat) (hg : Good s L a m) (hs : ¬ Step s L a m) (ham : a + m ≤ s.size) :
    ∀ (d j k : Nat), j + d = m → 2 * d + 1 < k → flow_reader_number.l0 k L (vv s a j) (j : Int) s ((a + j : Nat) : Int) = some (numAns s a m) := by
  intro d
  induction d with
  | zero =>
    intro j k hj hk
    obtain rfl : j = m := by omega
    obtain ⟨k, rfl⟩ : ∃ q, k = q + 2 := ⟨k - 2, by omega⟩
    have hv := vv_range hL hg
    have hj63 : ((j : Int) > 0) = (0 < j) := by apply propext; omega
    simp only [flow_reader_number.l0]
    by_cases hin : a + j < s.size
    · rw [next_in s (a + j) hin]
      simp only [Option.bind_some, if_true]
      have hb := by_range s (a + j)
      by_cases h48 : by_ s (a + j) < 48
      · rw [if_pos h48]
        simp only [flow_reader_number.j1, if_true, numAns]
        rw [if_neg (by omega)]
        simp
      · rw [if_neg h48]
        by_cases h57 : by_ s (a + j) > 57
        · rw [decide_eq_true h57]
          simp only [flow_reader_number.j1, if_true, numAns]
          rw [if_neg (by omega)]
          simp
        · rw [decide_eq_false h57]
          simp only [flow_reader_number.j1, Bool.false_eq_true, if_false, numAns]
          rw [if_pos (show a + j < s.size ∧ 48 ≤ by_ s (a + j) ∧ by_ s (a + j) ≤ 57 by omega)]
          have hd : (by_ s (a + j) - 48) % 256 = by_ s (a + j) - 48 := by omega
          have hw : IntKind.u64.wrap (Int.tdiv (IntKind.u64.wrap (L - (by_ s (a + j) - 48) )) 10) = (L - (by_ s (a + j) - 48)) / 10 := by
            rw [u64_id (n := L - (by_ s (a + j) - 48)) (by omega) (by omega), tdiv10 (by omega), u64_id (by omega) (by omega)]
          rw [hd, hw]
          by_cases hj0 : (j : Int) > 0
          · rw [if_pos hj0]
            by_cases hz : vv s a j = 0
            · rw [if_pos hz]
            · rw [if_neg hz, if_pos]
              rcases Int.lt_or_le ((L - (by_ s (a + j) - 48)) / 10) (vv s a j) with h | h
              · exact h
              · exact absurd ⟨hin, by omega, by omega, fun hh => hz hh.2, h⟩ hs
          · rw [if_neg hj0, if_pos]
            rcases Int.lt_or_le ((L - (by_ s (a + j) - 48)) / 10) (vv s a j) with h | h
            · exact h
            · exact absurd ⟨hin, by omega, by omega, fun hh => hj0 (by omega), h⟩ hs
    · obtain he : a + j = s.size := by omega
      rw [he, next_end]
      simp only [Option.bind_some, Bool.false_eq_true, if_false, flow_reader_number.j1, if_true, numAns]
      rw [if_neg (by omega), he]
      simp
  | succ d ih =>
    intro j k hj hk
    obtain ⟨k, rfl⟩ : ∃ q, k = q + 2 := ⟨k - 2, by omega⟩
    obtain ⟨hin, h48, h57, hz, hle⟩ := hg j (by omega)
    have hv := vv_range hL (hg.le (show j ≤ m by omega))
    simp only [flow_reader_number.l0]
    rw [next_in s (a + j) hin]
    simp only [Option.bind_some, if_true]
    rw [if_neg (by omega), decide_eq_false (show ¬ by_ s (a + j) > 57 by omega)]
    simp only [flow_reader_number.j1, Bool.false_eq_true, if_false]
    have hd : (by_ s (a + j) - 48) % 256 = by_ s (a + j) - 48 := by omega
    have hw : IntKind.u64.wrap (Int.tdiv (IntKind.u64.wrap (L - (by_ s (a + j) - 48) )) 10) = (L - (by_ s (a + j) - 48)) / 10 := by
      rw [u64_id (n := L - (by_ s (a + j) - 48)) (by omega) (by omega), tdiv10 (by omega), u64_id (by omega) (by omega)]
    have hn : IntKind.u64.wrap (IntKind.u64.wrap (10 * vv s a j) + (by_ s (a + j) - 48)) = vv s a (j + 1) := by
      rw [u64_id (n := 10 * vv s a j) (by omega) (by omega), u64_id (by omega) (by omega)]; rfl
    rw [hd, hw, hn, w64_nat j (by omega), w64_nat (a + j) (by omega)]
    have hgt : ¬ vv s a j > (L - (by_ s (a + j) - 48)) / 10 := by omega
    have hih := ih (j + 1) k (by omega) (by omega)
    by_cases hj0 : (j : Int) > 0
    · rw [if_pos hj0, if_neg (fun e => hz ⟨by omega, e⟩), if_neg hgt]; exact hih
    · rw [if_neg hj0, if_neg hgt]; exact hih
end Go.Proofs.YtdfndbegifdejaaDoor.GD
