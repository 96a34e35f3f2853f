import Derived.Test.YtkfbkjcdngipcaaEqP
import Derived.Test.YtkfbkjcdngipcaaWf
/-! The document's SameExpr comes to: the same or not. -/
namespace Go.Proofs.Ytkfbkjcdngipcaa.PTreeEquals
open Go.RowKit Go.Proofs.YtkfbkjcdngipcaaW.PrintWords Go.Proofs.YtkfbkjcdngipcaaW.PrintLast Go.Proofs.YtkfbkjcdngipcaaW.PrintMore
set_option linter.unusedVariables false
theorem up_ {α : Type} {f : Nat → Option α} (hm : ∀ k, LeO (f k) (f (k + 1))) {k : Nat} {r : α} (h : f k = some r) : ∀ k', k ≤ k' → f k' = some r := by
  intro k' hk
  obtain ⟨j, rfl⟩ := Nat.exists_eq_add_of_le hk
  induction j with
  | zero => exact h
  | succ j ih => exact hm (k + j) r (ih (Nat.le_add_right _ _))
theorem S54_ext' {x y : S54} (h0 : x.f0 = y.f0) (h1 : x.f1 = y.f1) (h2 : x.f2 = y.f2) (h3 : x.f3 = y.f3) (h4 : x.f4 = y.f4) : x = y := by cases x; cases y; simp_all
theorem SameExpr_sm : ∀ (n : Nat) (x y : S54), S54.wt x < n → x.wf → ∃ k, payoffref07_SameExpr.f k x.f0 x.f1 x.f2 x.f3 x.f4 y.f0 y.f1 y.f2 y.f3 y.f4 = some (sm x y) := by
  intro n
  induction n with
  | zero => intro x y h; omega
  | succ n IH =>
  intro x y hw hf
  rw [S54.wf_eq] at hf
  obtain ⟨hf3, hf4, hfs⟩ := hf
  rw [S54.wfs_iff] at hfs
  have hl0 := fun k => (payoffref07_SameExpr.mono_l k).2.2
  have hff := fun k => (payoffref07_SameExpr.mono_l k).1
  obtain ⟨kd, hd⟩ := sameDates_sm x.f3 y.f3 (by omega)
  have hd' := up_ (fun k => payoffref07_sameDates.mono x.f3 y.f3 k) hd
  have loop : x.f4.length = y.f4.length → ∀ (j i : Nat), i + j = x.f4.length → ∃ k, payoffref07_SameExpr.l0 k (i : Int) x.f0 x.f1 x.f2 x.f3 x.f4 y.f0 y.f1 y.f2 y.f3 y.f4 = some (sm (x.f4.drop i) (y.f4.drop i)) := by
    intro hlen j
    induction j with
    | zero =>
      intro i h
      refine ⟨1, ?_⟩
      rw [sm_end _ _ i (by omega) (by omega)]
      unfold payoffref07_SameExpr.l0
      rw [if_neg (by omega)]
    | succ j ih =>
      intro i h
      have h1 : i < x.f4.length := by omega
      have h2 : i < y.f4.length := by omega
      obtain ⟨k1, hk1⟩ := IH x.f4[i] y.f4[i] (by have := S54.wt_le (List.getElem_mem h1); have := S54.wt_eq x; omega) (hfs _ (List.getElem_mem h1))
      obtain ⟨k2, hk2⟩ := ih (i + 1) (by omega)
      have q1 := up_ (fun k => hff k _ _ _ _ _ _ _ _ _ _) hk1 (max k1 k2) (Nat.le_max_left _ _)
      have q2 := up_ (fun k => hl0 k _ _ _ _ _ _ _ _ _ _ _) hk2 (max k1 k2) (Nat.le_max_right _ _)
      refine ⟨max k1 k2 + 1, ?_⟩
      unfold payoffref07_SameExpr.l0
      rw [if_pos (by omega), if_pos (by omega), if_pos (by omega), rd54_at h1, rd54_at h2, q1, Option.bind_some, w64_next i (by omega), q2, sm_drop _ _ i h1 h2]
      cases sm x.f4[i] y.f4[i] <;> simp
  have hj : ∀ k, payoffref07_SameExpr.j0 (k + 1) true x.f0 x.f1 x.f2 x.f3 x.f4 y.f0 y.f1 y.f2 y.f3 y.f4 = some false := fun k => by unfold payoffref07_SameExpr.j0; rw [if_pos rfl]
  by_cases h0 : x.f0 = y.f0
  case neg => exact ⟨kd + 2, by unfold payoffref07_SameExpr.f; rw [hd' (kd + 1) (by omega), Option.bind_some, if_neg h0, hj, sm_false (fun e => h0 (by rw [e]))]⟩
  by_cases h1 : x.f1 = y.f1
  case neg => exact ⟨kd + 2, by unfold payoffref07_SameExpr.f; rw [hd' (kd + 1) (by omega), Option.bind_some, if_pos h0, if_neg h1, hj, sm_false (fun e => h1 (by rw [e]))]⟩
  by_cases h2 : x.f2 = y.f2
  case neg => exact ⟨kd + 2, by unfold payoffref07_SameExpr.f; rw [hd' (kd + 1) (by omega), Option.bind_some, if_pos h0, if_pos h1, if_neg (fun e => h2 ((toList_iff _ _).1 e)), hj, sm_false (fun e => h2 (by rw [e]))]⟩
  by_cases h3 : x.f3 = y.f3
  case neg => exact ⟨kd + 2, by unfold payoffref07_SameExpr.f; rw [hd' (kd + 1) (by omega), Option.bind_some, if_pos h0, if_pos h1, if_pos (by rw [h2]), if_neg (by rw [sm_false h3]; simp), hj, sm_false (fun e => h3 (by rw [e]))]⟩
  have hsm : sm x y = sm x.f4 y.f4 := by
    by_cases h4 : x.f4 = y.f4
    · rw [sm_true h4, sm_true (S54_ext' h0 h1 h2 h3 h4)]
    · rw [sm_false h4, sm_false (fun e => h4 (by rw [e]))]
  by_cases hlen : x.f4.length = y.f4.length
  · obtain ⟨k, hk⟩ := loop hlen x.f4.length 0 (by omega)
    have q := up_ (fun k => hl0 k _ _ _ _ _ _ _ _ _ _ _) hk (max k kd) (Nat.le_max_left _ _)
    refine ⟨max k kd + 2, ?_⟩
    unfold payoffref07_SameExpr.f
    rw [hd' (max k kd + 1) (by omega), Option.bind_some, if_pos h0, if_pos h1, if_pos (by rw [h2]), if_pos (sm_true h3)]
    unfold payoffref07_SameExpr.j0
    rw [if_neg (by simp [hlen]), hsm]
    exact q
  · refine ⟨kd + 2, ?_⟩
    unfold payoffref07_SameExpr.f
    rw [hd' (kd + 1) (by omega), Option.bind_some, if_pos h0, if_pos h1, if_pos (by rw [h2]), if_pos (sm_true h3)]
    unfold payoffref07_SameExpr.j0
    rw [if_pos (by simp; omega), hsm, sm_len hlen]
theorem sameExpr.all (x y : S54) (hf : x.wf) : EqOK k54 29 x y := by
  intro cs ds w hK1 hK2
  obtain ⟨A3, A3c, A4, A4c, rfl, l3, g3, l4, g4⟩ := k54_open hK1
  obtain ⟨B3, B3c, B4, B4c, rfl, p3, q3, p4, q4⟩ := k54_open hK2
  obtain ⟨k, h⟩ := SameExpr_sm _ x y (Nat.lt_succ_self _) hf
  exact payoffref07_SameExpr.calls k x.f0 x.f1 x.f2 A3 A3c x.f3 A4 A4c x.f4 y.f0 y.f1 y.f2 B3 B3c y.f3 B4 B4c y.f4 _ w g3 l3 g4 l4 q3 p3 q4 p4 h
end Go.Proofs.Ytkfbkjcdngipcaa.PTreeEquals
