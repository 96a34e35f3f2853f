/- CheckWithins: the plain law (the list of limits gone through once, an error at the first number below 0, is the reference's answer) and the walk. -/
import Derived.Test.YtcokbdcoellgnaaGWithinsx1
import Derived.Test.YtcokbdcoellgnaaKCheckWithins
namespace Go.Proofs.Ytcokbdcoellgnaa.GWithins
set_option linter.unusedVariables false
open Go.RowKit Go.Proofs.YtcokbdcoellgnaaW.PrintWords Go.Proofs.YtcokbdcoellgnaaMine

theorem wGo_neg : ∀ (l : List (Int × Int)) (e : Int), (∃ p ∈ l, p.1 < 0) → wGo l e = 1
  | [], _, h => by obtain ⟨_, h, _⟩ := h; simp at h
  | (x, m) :: t, e, h => by
    unfold wGo
    by_cases hx : x < 0
    · rw [if_pos hx]
    · rw [if_neg hx]
      refine wGo_neg t _ ?_
      obtain ⟨p, hp, h1⟩ := h
      rcases List.mem_cons.1 hp with rfl | hp
      · exact absurd h1 hx
      · exact ⟨p, hp, h1⟩
theorem wGo_pos : ∀ (l : List (Int × Int)) (e : Int), (∀ p ∈ l, ¬ p.1 < 0) → wGo l e = if ∃ p ∈ l, p.2 < p.1 then 82 else e
  | [], _, _ => by simp [wGo]
  | (x, m) :: t, e, h => by
    unfold wGo
    rw [if_neg (h (x, m) (by simp)), wGo_pos t _ (fun p hp => h p (by simp [hp]))]
    by_cases h1 : m < x
    · simp [h1]
    · rw [if_neg h1]
      have e1 : (∃ p ∈ t, p.2 < p.1) ↔ (∃ p ∈ (x, m) :: t, p.2 < p.1) := by
        refine ⟨fun ⟨p, hp, h2⟩ => ⟨p, by simp [hp], h2⟩, fun ⟨p, hp, h2⟩ => ?_⟩
        rcases List.mem_cons.1 hp with rfl | hp
        · exact absurd h2 h1
        · exact ⟨p, hp, h2⟩
      by_cases hq : ∃ p ∈ t, p.2 < p.1
      · rw [if_pos hq, if_pos (e1.1 hq)]
      · rw [if_neg hq, if_neg (fun h => hq (e1.2 h))]

set_option maxHeartbeats 2000000 in
theorem Within.pure (a0 a1 a2 a3 a4 a5 a6 : Int) : payofflaw08_CheckWithins.f 1 a0 a1 a2 a3 a4 a5 a6 = some true := by
  have hr : payoffref08_Within.f 1 a0 a1 a2 a3 a4 a5 a6 = some (wGo (wL a0 a1 a2 a3 a4 a5 a6) 0) := by
    by_cases hn : ∃ p ∈ wL a0 a1 a2 a3 a4 a5 a6, p.1 < 0
    · rw [wGo_neg _ _ hn]
      simp [wL] at hn
      have j : payoffref08_Within.j0 1 true a0 a1 a2 a3 a4 a5 a6 = some 1 := by simp only [payoffref08_Within.j0, if_true]
      unfold payoffref08_Within.f
      rw [j]
      by_cases c0 : a0 < 0
      · rw [if_pos c0]
      · rw [if_neg c0]
        by_cases c1 : a1 < 0
        · rw [if_pos c1]
        · rw [if_neg c1]
          by_cases c2 : a2 < 0
          · rw [if_pos c2]
          · rw [if_neg c2]
            by_cases c3 : a3 < 0
            · rw [if_pos c3]
            · rw [if_neg c3]
              by_cases c4 : a4 < 0
              · rw [if_pos c4]
              · rw [if_neg c4]
                by_cases c5 : a5 < 0
                · rw [if_pos c5]
                · rw [if_neg c5, decide_eq_true (show a6 < 0 by omega), j]
    · have hn' : ∀ p ∈ wL a0 a1 a2 a3 a4 a5 a6, ¬ p.1 < 0 := fun p hp h => hn ⟨p, hp, h⟩
      rw [wGo_pos _ _ hn']
      simp [wL] at hn'
      have e : (∃ p ∈ wL a0 a1 a2 a3 a4 a5 a6, p.2 < p.1) ↔ (64 < a0 ∨ 3660 < a1 ∨ 2048 < a2 ∨ 16384 < a3 ∨ 512 < a4 ∨ 64 < a5 ∨ 2097152 < a6) := by simp [wL]
      unfold payoffref08_Within.f
      simp only [payoffref08_Within.j0]
      obtain ⟨n0, n1, n2, n3, n4, n5, n6⟩ := hn'
      rw [if_neg (by omega), if_neg (by omega), if_neg (by omega), if_neg (by omega), if_neg (by omega), if_neg (by omega), if_neg (by simp; omega)]
      by_cases hx : (64 < a0 ∨ 3660 < a1 ∨ 2048 < a2 ∨ 16384 < a3 ∨ 512 < a4 ∨ 64 < a5 ∨ 2097152 < a6)
      · rw [if_pos (e.2 hx)]
        repeat' split
        all_goals first | rfl | (exfalso; omega)
      · rw [if_neg (fun h => hx (e.1 h))]
        repeat' split
        all_goals first | rfl | (exfalso; omega)
  unfold payofflaw08_CheckWithins.f
  rw [hr]
  simp [check_Within.f]

theorem CheckWithins.walk (cs0 : Array Value) (x0 : S23) (w : World) (h0 : k23.K w x0 cs0.toList) (_ : WF23 x0) :
    Calls Try.prog 3 #[.agg cs0] w fun e w' => e = .returned (.bool true) ∧ Below w.heap.size w w' := by
  have e0 : cs0 = #[.int .i64 x0.f0, .int .i64 x0.f1, .int .i64 x0.f2, .int .i64 x0.f3, .int .i64 x0.f4, .int .i64 x0.f5, .int .i64 x0.f6] := Array.ext' (k23_open h0)
  subst e0
  exact payofflaw08_CheckWithins.calls 1 _ _ _ _ _ _ _ true w (Within.pure _ _ _ _ _ _ _)
end Go.Proofs.Ytcokbdcoellgnaa.GWithins
