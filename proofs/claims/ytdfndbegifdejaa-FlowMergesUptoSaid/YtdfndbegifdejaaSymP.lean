/- The library's stable sort: plain laws of the merge by rotation. -/
import Derived.Test.YtdfndbegifdejaaStabP
namespace Go.Proofs.YtdfndbegifdejaaStab
set_option linter.unusedVariables false
set_option linter.unusedSimpArgs false
set_option linter.unusedSectionVars false
open Go.Sort
variable {α : Type} [Inhabited α] {d dk : Array α}

theorem rot_right (a c t : Nat) (h : a ≤ c) : rotI a (a + 1) (c + 1 + 1) t = if t = c + 1 then rotI a (a + 1) (c + 1) c else if t = c then rotI a (a + 1) (c + 1) (c + 1) else rotI a (a + 1) (c + 1) t := by
  unfold rotI; (repeat' split) <;> omega
theorem one_left {key : α → Int} {a b c : Nat} {d dk : Array α} (hX : Srt key a (a + 1) d) (hY : Srt key (a + 1) b d) (hac : a ≤ c) (hcb : c + 1 ≤ b) (hr : Rot a (a + 1) (c + 1) d dk)
    (hl : ∀ t, a + 1 ≤ t → t < c + 1 → key d[t]! < key d[a]!) (hg : ∀ t, c + 1 ≤ t → t < b → key d[a]! ≤ key d[t]!) : Seg key a b d dk ∧ Srt key a b dk := by
  have h2 : Srt key a (a + (c - a)) dk := Srt.shift (c - a) a (a + 1) (hY.mono _ _ (Nat.le_refl _) (by omega)) fun i hi => by rw [hr.at_, rotI_in1 (by omega)]
  refine merge_parts (m := a + 1) (s := a) (e := c + 1) (mid := a + (c + 1 - (a + 1))) (Nat.le_refl _) (by omega) (by omega) hcb rfl hX hY
    (fun i j h1 h3 h4 h5 => by obtain rfl : i = a := by omega
                               exact hl j h4 h5) (fun i j h1 h3 _ _ => by omega) hr Seg.refl (by rw [show a + (c + 1 - (a + 1)) = a + (c - a) by omega]; exact h2) Seg.refl ?_
  have e0 : dk[a + (c + 1 - (a + 1))]! = d[a]! := by
    rw [hr.at_, show a + (c + 1 - (a + 1)) = a + (c + 1 - (a + 1)) + 0 by omega, rotI_in2 (by omega) (by omega) (by omega)]; rfl
  intro i j hi hij hj
  have eo : ∀ t, c + 1 ≤ t → dk[t]! = d[t]! := fun t ht => by rw [hr.at_, rotI_out (by omega) (by omega) (.inr ht)]
  by_cases c1 : i = a + (c + 1 - (a + 1))
  · by_cases c2 : j = i
    · subst c2; exact Int.le_refl _
    · rw [c1, e0, eo j (by omega)]; exact hg j (by omega) hj
  · rw [eo i (by omega), eo j (by omega)]; exact hY i j (by omega) hij hj

theorem rot_left (c m t : Nat) (h : c < m) : rotI c m (m + 1) t = if t = c then rotI (c + 1) m (m + 1) (c + 1) else if t = c + 1 then rotI (c + 1) m (m + 1) c else rotI (c + 1) m (m + 1) t := by
  unfold rotI; (repeat' split) <;> omega
theorem one_right {key : α → Int} {a i m : Nat} {d dk : Array α} (hX : Srt key a m d) (hY : Srt key m (m + 1) d) (hai : a ≤ i) (him : i ≤ m) (hr : Rot i m (m + 1) d dk)
    (hl : ∀ t, a ≤ t → t < i → key d[t]! ≤ key d[m]!) (hg : ∀ t, i ≤ t → t < m → key d[m]! < key d[t]!) : Seg key a (m + 1) d dk ∧ Srt key a (m + 1) dk := by
  have e0 : dk[i]! = d[m]! := by rw [hr.at_]; have := rotI_in1 (l := i) (m := m) (r := m + 1) (i := 0) (by omega); simp at this; rw [this]
  have h2 : Srt key a (i + 1) dk := by
    intro p q hp hpq hq
    have eo : ∀ t, t < i → dk[t]! = d[t]! := fun t ht => by rw [hr.at_, rotI_out (by omega) (by omega) (.inl ht)]
    by_cases c1 : q = i
    · subst c1
      by_cases c2 : p = q
      · subst c2; exact Int.le_refl _
      · rw [e0, eo p (by omega)]; exact hl p hp (by omega)
    · rw [eo p (by omega), eo q (by omega)]; exact hX p q hp hpq (by omega)
  have h3 : Srt key (i + 1) (i + 1 + (m - i)) dk := Srt.shift (m - i) (i + 1) i (hX.mono _ _ hai (by omega)) fun t ht => by
    have := rotI_in2 (l := i) (m := m) (r := m + 1) (i := t) (by omega) (by omega) (by omega)
    rw [hr.at_, show i + 1 + t = i + (m + 1 - m) + t by omega, this]
  refine merge_parts (m := m) (s := i) (e := m + 1) (mid := i + (m + 1 - m)) hai him (by omega) (Nat.le_refl _) rfl hX hY
    (fun p q h1 h3 h4 h5 => by obtain rfl : q = m := by omega
                               exact hg p h1 h3) (fun p q h1 h3 h4 h5 => by omega) hr Seg.refl (by rw [show i + (m + 1 - m) = i + 1 by omega]; exact h2) Seg.refl (by rw [show i + (m + 1 - m) = i + 1 by omega, show m + 1 = i + 1 + (m - i) by omega]; exact h3)

end Go.Proofs.YtdfndbegifdejaaStab
