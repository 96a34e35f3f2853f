import Derived.Test.YtkfbkjcdngipcaaTlyC
namespace Go.Proofs.Ytkfbkjcdngipcaa.PTreeEquals
open Go.RowKit Go.Proofs.YtkfbkjcdngipcaaW.PrintWords Go.Proofs.YtkfbkjcdngipcaaW.PrintLast Go.Proofs.YtkfbkjcdngipcaaW.PrintMore
set_option linter.unusedVariables false
theorem texts_any (l : List ByteArray) (hl : l.length ≤ 9223372036854775807) : ∀ (m : Nat) (i s0 : Int) (s1 : Bool), 0 ≤ i → i + (m : Int) = (l.length : Int) → ∃ r1 r2, payoffref07_Tally_texts.l0 (2 * m + 2) l i s0 s1 = some (r1, r2) := by
  intro m
  induction m with
  | zero =>
    intro i s0 s1 h0 h
    have hn : ¬ i < (l.length : Int) := by omega
    exact ⟨s0, s1, by simp [payoffref07_Tally_texts.l0, payoffref07_Tally_texts.j1, hn]⟩
  | succ m ih =>
    intro i s0 s1 h0 h
    have hi : i < (l.length : Int) := by omega
    have hw : wrap64 (i + 1) = i + 1 := by unfold wrap64; omega
    show ∃ r1 r2, payoffref07_Tally_texts.l0 (2 * m + 2 + 1 + 1) l i s0 s1 = some (r1, r2)
    cases s1 with
    | true => exact ⟨s0, true, by simp only [payoffref07_Tally_texts.l0, payoffref07_Tally_texts.j1, hi]; simp⟩
    | false =>
      obtain ⟨a1, a2, ha⟩ := take_any s0 false 1
      obtain ⟨b1, b2, hb⟩ := take_any a1 a2 ((rdOf ByteArray.empty l i).size : Int)
      obtain ⟨r1, r2, hr⟩ := ih (i + 1) b1 b2 (by omega) (by omega)
      refine ⟨r1, r2, ?_⟩
      rw [payoffref07_Tally_texts.l0, if_pos hi, payoffref07_Tally_texts.j1, if_pos (by rfl), ha]
      simp only [Option.bind_some]
      rw [if_pos h0, if_pos hi, hb]
      simp only [Option.bind_some]
      rw [hw]
      exact hr
/-- Tally.texts: some state or other. -/
theorem texts_calls (g : Nat) (s0 : Int) (s1 : Bool) (A : Option Addr) (c : Nat) (l : List ByteArray) (w0 w : World) (hI : IsS50 w0 w g s0 s1) (hB : Below w0.heap.size w0 w) (hr : Kd.C Kd.string w0 A l.length l) (hc : l.length ≤ c) (hl : l.length ≤ 9223372036854775807) :
    Calls Try.prog 15 #[.pointer (some ⟨g, 0, none⟩), .slice A l.length c] w fun e w' => e = .returned (.tuple #[]) ∧ (∃ r1 r2, IsS50 w0 w' g r1 r2) ∧ Below w0.heap.size w0 w' ∧ KeepBut w w' g none := by
  obtain ⟨r1, r2, h⟩ := texts_any l hl l.length 0 s0 s1 (by omega) (by omega)
  refine (payoffref07_Tally_texts.calls (2 * l.length + 2) g s0 s1 A c l r1 r2 w0 w hI hB (Kd.C_below hr hB) hc ?_ h).mono ?_
  · rintro ad rfl hn
    have := Kd.C_lt hr hn (by decide)
    have := hI.ge
    omega
  · rintro e w' ⟨h1, h2, h3, h4⟩
    exact ⟨h1, ⟨r1, r2, h2⟩, h3, h4⟩
end Go.Proofs.Ytkfbkjcdngipcaa.PTreeEquals
