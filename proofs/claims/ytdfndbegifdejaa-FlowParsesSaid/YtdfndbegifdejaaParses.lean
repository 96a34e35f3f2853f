/- FlowParses, the plain law: at any text the program's Parse tells what the document's tells; and the law's walk. -/
import Derived.Test.YtdfndbegifdejaaLineP
namespace Go.Proofs.Ytdfndbegifdejaa.GParses
set_option linter.unusedVariables false
set_option linter.unusedSimpArgs false
open Go.RowKit Go.Proofs.YtdfndbegifdejaaW.PrintWords Go.Proofs.YtdfndbegifdejaaW.PrintLast Go.Proofs.YtdfndbegifdejaaW.PrintMore

theorem parse_same (s : ByteArray) (hsz : s.size ≤ 1048576) : ∀ (d p k k' : Nat) (out : List S32), p + d = s.size → out.length ≤ p → 8 * s.size + 61 + d < k → 8 * s.size + 61 + d < k' →
    ∃ (l : List S32) (q e : Int), flow_Parse.l0 k s out s (p : Int) = some (l, q, e) ∧ payoffref03_Parse.l0 k' s out (p : Int) = some (l, q, e) ∧ l.length ≤ s.size := by
  intro d
  induction d using Nat.strongRecOn with
  | _ d ih =>
    intro p k k' out hp hout hk hk'
    obtain ⟨k, rfl⟩ : ∃ q, k = q + 1 := ⟨k - 1, by omega⟩
    obtain ⟨k', rfl⟩ : ∃ q, k' = q + 1 := ⟨k' - 1, by omega⟩
    simp only [flow_Parse.l0, payoffref03_Parse.l0]
    by_cases hin : (p : Int) < (s.size : Int)
    · rw [if_pos hin, if_pos hin]
      obtain ⟨ok, q, d1, d2, v1, v2, c1, c2, e1, e2, hq, hy⟩ := line_same s hsz p (by omega) k k' (by omega) (by omega)
      rw [e1, e2]
      simp only [Option.bind_some]
      cases ok with
      | true =>
        obtain ⟨hlt, rfl, rfl, rfl⟩ := hy rfl
        simp only [if_true]
        rw [if_pos (by omega), if_pos (by omega)]
        exact ih (s.size - q) (by omega) q k k' _ (by omega) (by simp; omega) (by omega) (by omega)
      | false =>
        simp only [Bool.false_eq_true, if_false]
        exact ⟨_, _, _, rfl, rfl, by simp⟩
    · rw [if_neg hin, if_neg hin]
      exact ⟨_, _, _, rfl, rfl, by omega⟩

theorem neS (x y : S32) : ((!(x.f0 == y.f0) || (!(x.f1.toList == y.f1.toList) || !(x.f2 == y.f2))) = true) ↔ ¬ (x.f0 = y.f0 ∧ x.f1.toList = y.f1.toList ∧ x.f2 = y.f2) := by
  simp only [Bool.or_eq_true, Bool.not_eq_true', beq_eq_false_iff_ne, ne_eq]
  by_cases h1 : x.f0 = y.f0 <;> by_cases h2 : x.f1.toList = y.f1.toList <;> by_cases h3 : x.f2 = y.f2 <;> simp [h1, h2, h3]
theorem same_l0 (a b : List S32) (hab : a = b) (hl : a.length ≤ 140737488355328) : ∀ (d n k : Nat), n + d = a.length → d < k → payofflaw03_same.l0 k a b (n : Int) = some true := by
  subst hab
  intro d
  induction d with
  | zero =>
    intro n k hn hk
    obtain ⟨k, rfl⟩ : ∃ m, k = m + 1 := ⟨k - 1, by omega⟩
    simp only [payofflaw03_same.l0]
    rw [if_neg (by omega)]
  | succ d ih =>
    intro n k hn hk
    obtain ⟨k, rfl⟩ : ∃ m, k = m + 1 := ⟨k - 1, by omega⟩
    simp only [payofflaw03_same.l0]
    rw [if_pos (by omega), if_pos (by omega), if_pos (by omega), if_neg (by rw [neS]; simp), w64_nat n (by omega)]
    exact ih (n + 1) k (by omega) (by omega)
theorem same_self (a : List S32) (hl : a.length ≤ 140737488355328) (k : Nat) (hk : a.length < k) : payofflaw03_same.f k a a = some true := by
  unfold payofflaw03_same.f
  rw [if_pos rfl]
  exact same_l0 a a rfl hl a.length 0 k (by omega) hk

theorem FlowParses.pure (s : ByteArray) : ∃ k, payofflaw03_FlowParses.f k s = some true := by
  refine ⟨9 * s.size + 70, ?_⟩
  unfold payofflaw03_FlowParses.f flow_Parse.f payoffref03_Parse.f
  by_cases h : (s.size : Int) > 1048576
  · rw [if_pos h, if_pos h]
    simp only [Option.bind_some, if_true]
    rw [same_self [] (by simp) _ (by simp)]
    rfl
  · rw [if_neg h, if_neg h]
    obtain ⟨l, q, e, h1, h2, hl⟩ := parse_same s (by omega) s.size 0 (9 * s.size + 70) (9 * s.size + 70) [] (by omega) (by simp) (by omega) (by omega)
    rw [show ((0 : Nat) : Int) = 0 from rfl] at h1 h2
    rw [h1, h2]
    simp only [Option.bind_some, if_true]
    rw [same_self l (by omega) _ (by omega)]
    rfl
theorem FlowParses.walk (s : ByteArray) (w : World) (_ : s.size ≤ reachBytes) :
    Calls Try.prog 5 #[.string s] w fun e w' => e = .returned (.bool true) ∧ Below w.heap.size w w' := by
  obtain ⟨k, h⟩ := FlowParses.pure s
  exact payofflaw03_FlowParses.calls k s true w h
end Go.Proofs.Ytdfndbegifdejaa.GParses
