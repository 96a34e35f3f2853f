/- The library's stable sort: plain laws of the merge by rotation, the general case. -/
import Derived.Test.YtdfndbegifdejaaSymP
namespace Go.Proofs.YtdfndbegifdejaaStab
set_option linter.unusedVariables false
set_option linter.unusedSimpArgs false
set_option linter.unusedSectionVars false
open Go.Sort
variable {α : Type} [Inhabited α] {key : α → Int} {a b m s e mid lo hi : Nat} {d d1 d2 : Array α}

/-- What the search for the place of the cut has found. -/
theorem cut_lo (hX : Srt key a m d) (hY : Srt key m b d) (hal : a ≤ lo) (hls : lo ≤ s) (hsh : s ≤ hi) (him : hi ≤ m) (hid : hi ≤ mid) (hend : mid + m ≤ b + lo) (F4 : hi = m ∨ hi = mid)
    (he : e + s = mid + m) (HR : ∀ t, s ≤ t → t < hi → key d[mid + m - 1 - t]! < key d[t]!) : ∀ i j, s ≤ i → i < m → m ≤ j → j < e → key d[j]! < key d[i]! := by
  intro i j h1 h2 h3 h4
  by_cases c : s < hi
  · have hr := HR s (Nat.le_refl _) c
    have e1 : mid + m - 1 - s = e - 1 := by omega
    rw [e1] at hr
    have h5 := hX s i (by omega) h1 h2
    have h6 := hY j (e - 1) h3 (by omega) (by omega)
    omega
  · omega
theorem cut_hi (hX : Srt key a m d) (hY : Srt key m b d) (hal : a ≤ lo) (hls : lo ≤ s) (hsh : s ≤ hi) (him : hi ≤ m) (hid : hi ≤ mid) (hend : mid + m ≤ b + lo) (F5 : lo = a ∨ lo + b = mid + m)
    (he : e + s = mid + m) (HL : ∀ t, lo ≤ t → t < s → key d[t]! ≤ key d[mid + m - 1 - t]!) : ∀ i j, a ≤ i → i < s → e ≤ j → j < b → key d[i]! ≤ key d[j]! := by
  intro i j h1 h2 h3 h4
  by_cases c : lo < s
  · have hl := HL (s - 1) (by omega) (by omega)
    have e1 : mid + m - 1 - (s - 1) = e := by omega
    rw [e1] at hl
    have h5 := hX i (s - 1) h1 (by omega) (by omega)
    have h6 := hY e j (by omega) h3 h4
    omega
  · omega
/-- The rotated array's four sorted pieces. -/
theorem rot_pieces (hX : Srt key a m d) (hY : Srt key m b d) (has : a ≤ s) (hsm : s ≤ m) (hme : m ≤ e) (heb : e ≤ b) (he : e + s = mid + m) (h : Rot s m e d d1) :
    Srt key a s d1 ∧ Srt key s mid d1 ∧ Srt key mid e d1 ∧ Srt key e b d1 := by
  refine ⟨(hX.mono a s (Nat.le_refl _) hsm).congr fun t h1 h2 => ?_, ?_, ?_, (hY.mono e b hme (Nat.le_refl _)).congr fun t h1 h2 => ?_⟩
  · rw [h.at_, rotI_out hsm hme (.inl h2)]
  · have := Srt.shift (key := key) (d := d) (d' := d1) (e - m) s m ((hY.mono m e (Nat.le_refl _) heb).mono m (m + (e - m)) (Nat.le_refl _) (by omega)) fun i hi => by rw [h.at_, rotI_in1 hi]
    rwa [show s + (e - m) = mid by omega] at this
  · have := Srt.shift (key := key) (d := d) (d' := d1) (m - s) mid s ((hX.mono s m has (Nat.le_refl _)).mono s (s + (m - s)) (Nat.le_refl _) (by omega)) fun i hi => by
      have := rotI_in2 (l := s) (m := m) (r := e) (i := i) hsm hme hi
      rw [h.at_, show mid + i = s + (e - m) + i by omega, this]
    rwa [show mid + (m - s) = e by omega] at this
  · rw [h.at_, rotI_out hsm hme (.inr h1)]
/-- Two sorted neighbours of which one is empty. -/
theorem srt_none (h1 : Srt key a s d) (h2 : Srt key s mid d) (h : ¬ (a < s ∧ s < mid)) (ha : a ≤ s) (hm : s ≤ mid) : Srt key a mid d := by
  by_cases c : a < s
  · have : s = mid := by omega
    subst this; exact h1
  · have : a = s := by omega
    subst this; exact h2
end Go.Proofs.YtdfndbegifdejaaStab
