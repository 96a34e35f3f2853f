/- The library's stable sort: plain laws of the rounds over blocks. -/
import Derived.Test.YtdfndbegifdejaaStabP
namespace Go.Proofs.YtdfndbegifdejaaStab
set_option linter.unusedVariables false
set_option linter.unusedSimpArgs false
set_option linter.unusedSectionVars false
open Go.Sort
variable {α : Type} [Inhabited α] {key : α → Int} {bs n a : Nat} {d d' : Array α}

def Blk (key : α → Int) (bs n : Nat) (d : Array α) : Prop := ∀ i, Srt key (bs * i) (min (bs * (i + 1)) n) d
def Ini (key : α → Int) (bs a : Nat) (d : Array α) : Prop := (∃ q, a = bs * q) ∧ ∀ i, bs * (i + 1) ≤ a → Srt key (bs * i) (bs * (i + 1)) d
def Mgd (key : α → Int) (bs n a : Nat) (d : Array α) : Prop :=
  (∃ q, a = bs * (2 * q)) ∧ (∀ i, bs * (2 * i + 2) ≤ a → Srt key (bs * (2 * i)) (bs * (2 * i + 2)) d) ∧ (∀ i, a ≤ bs * i → Srt key (bs * i) (min (bs * (i + 1)) n) d)

theorem Srt.empty (h : n ≤ a) : Srt key a n d := fun i j h1 h2 h3 => by omega

theorem Ini.start : Ini key bs 0 d := ⟨⟨0, rfl⟩, fun i h => Srt.empty (by have := Nat.mul_add bs i 1; omega)⟩
theorem Ini.step (h : Ini key bs a d) (hb : 0 < bs) (hs : Seg key a (a + bs) d d') (ht : Srt key a (a + bs) d') : Ini key bs (a + bs) d' := by
  obtain ⟨⟨q, rfl⟩, h2⟩ := h
  refine ⟨⟨q + 1, by rw [Nat.mul_add, Nat.mul_one]⟩, fun i hi => ?_⟩
  rw [show bs * q + bs = bs * (q + 1) by rw [Nat.mul_add, Nat.mul_one]] at *
  have h3 : i + 1 ≤ q + 1 := Nat.le_of_mul_le_mul_left hi hb
  by_cases c : i = q
  · subst c; exact ht
  · have h4 : bs * (i + 1) ≤ bs * q := Nat.mul_le_mul_left bs (by omega)
    exact (h2 i h4).congr fun t h5 h6 => hs.out t (.inl (by omega))
theorem Ini.fin (h : Ini key bs a d) (hb : 0 < bs) (han : a ≤ n) (hn : n < a + bs) (hs : Seg key a n d d') (ht : Srt key a n d') : Blk key bs n d' := by
  obtain ⟨⟨q, rfl⟩, h2⟩ := h
  intro i
  rcases Nat.lt_trichotomy i q with c | c | c
  · have h4 : bs * (i + 1) ≤ bs * q := Nat.mul_le_mul_left bs (by omega)
    rw [Nat.min_eq_left (by omega)]
    exact (h2 i h4).congr fun t h5 h6 => hs.out t (.inl (by omega))
  · subst c
    rw [Nat.min_eq_right (by rw [Nat.mul_add, Nat.mul_one]; omega)]
    exact ht
  · have h4 : bs * (q + 1) ≤ bs * i := Nat.mul_le_mul_left bs (by omega)
    rw [Nat.mul_add, Nat.mul_one] at h4
    exact Srt.empty (by omega)

theorem Mgd.start (h : Blk key bs n d) : Mgd key bs n 0 d := ⟨⟨0, rfl⟩, fun i hi => Srt.empty (by have := Nat.mul_add bs (2 * i) 2; omega), fun i _ => h i⟩
theorem two_more (bs q : Nat) : bs * (2 * q + 1) = bs * (2 * q) + bs ∧ bs * (2 * q + 2) = bs * (2 * q) + 2 * bs := by
  constructor
  · rw [Nat.mul_add, Nat.mul_one]
  · rw [Nat.mul_add, Nat.mul_comm bs 2]
theorem Mgd.pre (h : Mgd key bs n a d) (h2 : a + 2 * bs ≤ n) : Srt key a (a + bs) d ∧ Srt key (a + bs) (a + 2 * bs) d := by
  obtain ⟨⟨q, rfl⟩, _, h3⟩ := h
  obtain ⟨e1, e2⟩ := two_more bs q
  have h4 := h3 (2 * q) (Nat.le_refl _)
  have h5 := h3 (2 * q + 1) (by omega)
  rw [e1, Nat.min_eq_left (by omega)] at h4
  rw [e1, show 2 * q + 1 + 1 = 2 * q + 2 from rfl, e2, Nat.min_eq_left (by omega)] at h5
  exact ⟨h4, h5⟩
theorem Mgd.pre_last (h : Mgd key bs n a d) (h1 : a + bs < n) (h2 : n < a + 2 * bs) : Srt key a (a + bs) d ∧ Srt key (a + bs) n d := by
  obtain ⟨⟨q, rfl⟩, _, h3⟩ := h
  obtain ⟨e1, e2⟩ := two_more bs q
  have h4 := h3 (2 * q) (Nat.le_refl _)
  have h5 := h3 (2 * q + 1) (by omega)
  rw [e1, Nat.min_eq_left (by omega)] at h4
  rw [e1, show 2 * q + 1 + 1 = 2 * q + 2 from rfl, e2, Nat.min_eq_right (by omega)] at h5
  exact ⟨h4, h5⟩
theorem Mgd.step (h : Mgd key bs n a d) (hb : 0 < bs) (hs : Seg key a (a + 2 * bs) d d') (ht : Srt key a (a + 2 * bs) d') : Mgd key bs n (a + 2 * bs) d' := by
  obtain ⟨⟨q, rfl⟩, h2, h3⟩ := h
  obtain ⟨e1, e2⟩ := two_more bs q
  refine ⟨⟨q + 1, by rw [show 2 * (q + 1) = 2 * q + 2 by omega, e2]⟩, fun i hi => ?_, fun i hi => ?_⟩
  · rw [← e2] at hi ht
    have h5 : 2 * i + 2 ≤ 2 * q + 2 := Nat.le_of_mul_le_mul_left hi hb
    by_cases c : i = q
    · subst c; exact ht
    · have h4 : bs * (2 * i + 2) ≤ bs * (2 * q) := Nat.mul_le_mul_left bs (by omega)
      exact (h2 i h4).congr fun t h5 h6 => hs.out t (.inl (by omega))
  · exact (h3 i (by omega)).congr fun t h5 h6 => hs.out t (.inr (by omega))
theorem Mgd.fin (h : Mgd key bs n a d) (hb : 0 < bs) (han : a ≤ n) (hn : n < a + 2 * bs) (hs : Seg key a n d d') (ht : Srt key a n d') : Blk key (bs * 2) n d' := by
  obtain ⟨⟨q, rfl⟩, h2, h3⟩ := h
  intro i
  rw [Nat.mul_assoc, Nat.mul_assoc, show 2 * (i + 1) = 2 * i + 2 by omega]
  rcases Nat.lt_trichotomy i q with c | c | c
  · have h4 : bs * (2 * i + 2) ≤ bs * (2 * q) := Nat.mul_le_mul_left bs (by omega)
    rw [Nat.min_eq_left (by omega)]
    exact (h2 i h4).congr fun t h5 h6 => hs.out t (.inl (by omega))
  · subst c
    rw [Nat.min_eq_right (by have := (two_more bs i).2; omega)]
    exact ht
  · have h4 : bs * (2 * q + 2) ≤ bs * (2 * i) := Nat.mul_le_mul_left bs (by omega)
    have := (two_more bs q).2
    exact Srt.empty (by omega)
theorem Mgd.fin_none (h : Mgd key bs n a d) (hb : 0 < bs) (han : a ≤ n) (hn : n ≤ a + bs) : Blk key (bs * 2) n d := by
  refine h.fin hb han (by omega) Seg.refl ?_
  obtain ⟨⟨q, rfl⟩, h2, h3⟩ := h
  have h4 := h3 (2 * q) (Nat.le_refl _)
  rw [(two_more bs q).1, Nat.min_eq_right (by omega)] at h4
  exact h4
theorem Blk.whole (h : Blk key bs n d) (hn : n ≤ bs) : Srt key 0 n d := by
  have := h 0
  rw [Nat.mul_zero, Nat.zero_add, Nat.mul_one, Nat.min_eq_right hn] at this
  exact this
end Go.Proofs.YtdfndbegifdejaaStab
