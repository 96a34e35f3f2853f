/- Merged: StabQ, RotR, SymP, SymQ, SymL, SymO. -/
import Derived.Test.YtdfndbegifdejaaDoorSrt
/-! ### StabQ -/
/- The library's stable sort: plain laws of the rounds over blocks. -/
namespace Go.Proofs.YtdfndbegifdejaaDoorStab
set_option linter.unusedVariables false
set_option linter.unusedSimpArgs false
set_option linter.unusedSectionVars false
open Go.Sort
variable {α : Type} [Inhabited α] {key : α → Int} {bs n a : Nat} {d d' : Array α}

def Blk (key : α → Int) (bs n : Nat) (d : Array α) : Prop := ∀ i, Srt key (bs * i) (min (bs * (i + 1)) n) d
def Ini (key : α → Int) (bs a : Nat) (d : Array α) : Prop := (∃ q, a = bs * q) ∧ ∀ i, bs * (i + 1) ≤ a → Srt key (bs * i) (bs * (i + 1)) d
def Mgd (key : α → Int) (bs n a : Nat) (d : Array α) : Prop :=
  (∃ q, a = bs * (2 * q)) ∧ (∀ i, bs * (2 * i + 2) ≤ a → Srt key (bs * (2 * i)) (bs * (2 * i + 2)) d) ∧ (∀ i, a ≤ bs * i → Srt key (bs * i) (min (bs * (i + 1)) n) d)

theorem Srt.empty (h : n ≤ a) : Srt key a n d := fun i j h1 h2 h3 => by omega

theorem Ini.start : Ini key bs 0 d := ⟨⟨0, rfl⟩, fun i h => Srt.empty (by have := Nat.mul_add bs i 1; omega)⟩
theorem Ini.step (h : Ini key bs a d) (hb : 0 < bs) (hs : Seg key a (a + bs) d d') (ht : Srt key a (a + bs) d') : Ini key bs (a + bs) d' := by
  obtain ⟨⟨q, rfl⟩, h2⟩ := h
  refine ⟨⟨q + 1, by rw [Nat.mul_add, Nat.mul_one]⟩, fun i hi => ?_⟩
  rw [show bs * q + bs = bs * (q + 1) by rw [Nat.mul_add, Nat.mul_one]] at *
  have h3 : i + 1 ≤ q + 1 := Nat.le_of_mul_le_mul_left hi hb
  by_cases c : i = q
  · subst c; exact ht
  · have h4 : bs * (i + 1) ≤ bs * q := Nat.mul_le_mul_left bs (by omega)
    exact (h2 i h4).congr fun t h5 h6 => hs.out t (.inl (by omega))
theorem Ini.fin (h : Ini key bs a d) (hb : 0 < bs) (han : a ≤ n) (hn : n < a + bs) (hs : Seg key a n d d') (ht : Srt key a n d') : Blk key bs n d' := by
  obtain ⟨⟨q, rfl⟩, h2⟩ := h
  intro i
  rcases Nat.lt_trichotomy i q with c | c | c
  · have h4 : bs * (i + 1) ≤ bs * q := Nat.mul_le_mul_left bs (by omega)
    rw [Nat.min_eq_left (by omega)]
    exact (h2 i h4).congr fun t h5 h6 => hs.out t (.inl (by omega))
  · subst c
    rw [Nat.min_eq_right (by rw [Nat.mul_add, Nat.mul_one]; omega)]
    exact ht
  · have h4 : bs * (q + 1) ≤ bs * i := Nat.mul_le_mul_left bs (by omega)
    rw [Nat.mul_add, Nat.mul_one] at h4
    exact Srt.empty (by omega)

theorem Mgd.start (h : Blk key bs n d) : Mgd key bs n 0 d := ⟨⟨0, rfl⟩, fun i hi => Srt.empty (by have := Nat.mul_add bs (2 * i) 2; omega), fun i _ => h i⟩
theorem two_more (bs q : Nat) : bs * (2 * q + 1) = bs * (2 * q) + bs ∧ bs * (2 * q + 2) = bs * (2 * q) + 2 * bs := by
  constructor
  · rw [Nat.mul_add, Nat.mul_one]
  · rw [Nat.mul_add, Nat.mul_comm bs 2]
theorem Mgd.pre (h : Mgd key bs n a d) (h2 : a + 2 * bs ≤ n) : Srt key a (a + bs) d ∧ Srt key (a + bs) (a + 2 * bs) d := by
  obtain ⟨⟨q, rfl⟩, _, h3⟩ := h
  obtain ⟨e1, e2⟩ := two_more bs q
  have h4 := h3 (2 * q) (Nat.le_refl _)
  have h5 := h3 (2 * q + 1) (by omega)
  rw [e1, Nat.min_eq_left (by omega)] at h4
  rw [e1, show 2 * q + 1 + 1 = 2 * q + 2 from rfl, e2, Nat.min_eq_left (by omega)] at h5
  exact ⟨h4, h5⟩
theorem Mgd.pre_last (h : Mgd key bs n a d) (h1 : a + bs < n) (h2 : n < a + 2 * bs) : Srt key a (a + bs) d ∧ Srt key (a + bs) n d := by
  obtain ⟨⟨q, rfl⟩, _, h3⟩ := h
  obtain ⟨e1, e2⟩ := two_more bs q
  have h4 := h3 (2 * q) (Nat.le_refl _)
  have h5 := h3 (2 * q + 1) (by omega)
  rw [e1, Nat.min_eq_left (by omega)] at h4
  rw [e1, show 2 * q + 1 + 1 = 2 * q + 2 from rfl, e2, Nat.min_eq_right (by omega)] at h5
  exact ⟨h4, h5⟩
theorem Mgd.step (h : Mgd key bs n a d) (hb : 0 < bs) (hs : Seg key a (a + 2 * bs) d d') (ht : Srt key a (a + 2 * bs) d') : Mgd key bs n (a + 2 * bs) d' := by
  obtain ⟨⟨q, rfl⟩, h2, h3⟩ := h
  obtain ⟨e1, e2⟩ := two_more bs q
  refine ⟨⟨q + 1, by rw [show 2 * (q + 1) = 2 * q + 2 by omega, e2]⟩, fun i hi => ?_, fun i hi => ?_⟩
  · rw [← e2] at hi ht
    have h5 : 2 * i + 2 ≤ 2 * q + 2 := Nat.le_of_mul_le_mul_left hi hb
    by_cases c : i = q
    · subst c; exact ht
    · have h4 : bs * (2 * i + 2) ≤ bs * (2 * q) := Nat.mul_le_mul_left bs (by omega)
      exact (h2 i h4).congr fun t h5 h6 => hs.out t (.inl (by omega))
  · exact (h3 i (by omega)).congr fun t h5 h6 => hs.out t (.inr (by omega))
theorem Mgd.fin (h : Mgd key bs n a d) (hb : 0 < bs) (han : a ≤ n) (hn : n < a + 2 * bs) (hs : Seg key a n d d') (ht : Srt key a n d') : Blk key (bs * 2) n d' := by
  obtain ⟨⟨q, rfl⟩, h2, h3⟩ := h
  intro i
  rw [Nat.mul_assoc, Nat.mul_assoc, show 2 * (i + 1) = 2 * i + 2 by omega]
  rcases Nat.lt_trichotomy i q with c | c | c
  · have h4 : bs * (2 * i + 2) ≤ bs * (2 * q) := Nat.mul_le_mul_left bs (by omega)
    rw [Nat.min_eq_left (by omega)]
    exact (h2 i h4).congr fun t h5 h6 => hs.out t (.inl (by omega))
  · subst c
    rw [Nat.min_eq_right (by have := (two_more bs i).2; omega)]
    exact ht
  · have h4 : bs * (2 * q + 2) ≤ bs * (2 * i) := Nat.mul_le_mul_left bs (by omega)
    have := (two_more bs q).2
    exact Srt.empty (by omega)
theorem Mgd.fin_none (h : Mgd key bs n a d) (hb : 0 < bs) (han : a ≤ n) (hn : n ≤ a + bs) : Blk key (bs * 2) n d := by
  refine h.fin hb han (by omega) Seg.refl ?_
  obtain ⟨⟨q, rfl⟩, h2, h3⟩ := h
  have h4 := h3 (2 * q) (Nat.le_refl _)
  rw [(two_more bs q).1, Nat.min_eq_right (by omega)] at h4
  exact h4
theorem Blk.whole (h : Blk key bs n d) (hn : n ≤ bs) : Srt key 0 n d := by
  have := h 0
  rw [Nat.mul_zero, Nat.zero_add, Nat.mul_one, Nat.min_eq_right hn] at this
  exact this
end Go.Proofs.YtdfndbegifdejaaDoorStab

/-! ### RotR -/
/- The library's stable sort at a slice of structs: rotateCmpFunc. -/
namespace Go.Proofs.YtdfndbegifdejaaDoorStab
set_option linter.unusedVariables false
set_option linter.unusedSimpArgs false
set_option linter.unusedSectionVars false
open Go Go.Proofs Go.Shelf Go.RowKit Go.Lib Go.Sort
variable {P : Program} {α : Type} [Inhabited α]

theorem rot_even (m i t : Nat) (h : i ≤ m) : rotI (m - i) m (m + i) t = swI (m - i) m i t := by
  unfold rotI swI; (repeat' split) <;> omega
theorem rot_gt (m i j t : Nat) (h : i ≤ m) (hij : j < i) : rotI (m - i) m (m + j) t = swI (m - i) m j (rotI (m - (i - j)) m (m + j) t) := by
  have e : ∀ r, r = rotI (m - (i - j)) m (m + j) t → rotI (m - i) m (m + j) t = swI (m - i) m j r := by
    intro r hr
    unfold rotI at hr
    unfold rotI swI
    (repeat' split at hr) <;> (repeat' split) <;> omega
  exact e _ rfl
theorem rot_lt (m i j t : Nat) (h : i ≤ m) (hij : i < j) : rotI (m - i) m (m + j) t = swI (m - i) (m + j - i) i (rotI (m - i) m (m + (j - i)) t) := by
  have e : ∀ r, r = rotI (m - i) m (m + (j - i)) t → rotI (m - i) m (m + j) t = swI (m - i) (m + j - i) i r := by
    intro r hr
    unfold rotI at hr
    unfold rotI swI
    (repeat' split at hr) <;> (repeat' split) <;> omega
  exact e _ rfl

set_option maxHeartbeats 4000000 in
set_option maxRecDepth 1000000 in
theorem rotate (k : Nat) (L : Lays P k) (enc : α → List Value) (g : Nat) (cb : Array Value) (blk off cap a m b : Nat) (d0 d : Array α) (w0 w : World)
    (R : RowK enc k w0 blk off d0) (hs : d0.size = d.size) (S : SWK enc k w0 blk off d w) (ham : a < m) (hmb : m < b) (hb : b ≤ d.size) (hsz : d.size < 4611686018427387904) :
    Calls P 91 #[.slice (some ⟨blk, off, none⟩) d.size cap, .int .i64 a, .int .i64 m, .int .i64 b, .func (.func g) #[] cb] w fun e w' =>
      e = .returned (.tuple #[]) ∧ ∃ dk : Array α, Rot a m b d dk ∧ SWK enc k w0 blk off dk w' := by
  have mixed := L.mixed; have t0 := L.t0; have a0 := L.a0; have z0 := L.z0; have v0 := L.v0; have t3 := L.t3; have a3 := L.a3; have z3 := L.z3; have v3 := L.v3; have t4 := L.t4; have a4 := L.a4; have z4 := L.z4; have v4 := L.v4; have t22 := L.t22; have a22 := L.a22; have z22 := L.z22; have v22 := L.v22; have t35 := L.t35; have a35 := L.a35; have z35 := L.z35; have v35 := L.v35; have aE := L.aE; have zE := L.zE
  have FG := L.f74
  have e93 : ∀ args w, (callFunc 104 args).run P w = .ok (.enter 104 args) w := enters_of L.f93 (by kernel_rfl) rfl
  have S0 : Aside (SWK enc k w0 blk off d w) := S
  clear S
  go_enter FG, Tryd.ntmps91
  go_wp2
  go_loopg [10, 11] (b - a) (fun kx s10 s11 wr => ∃ (i j : Nat) (dk : Array α), s10 = .int .i64 i ∧ s11 = .int .i64 j ∧ 0 < i ∧ 0 < j ∧ a + i ≤ m ∧ m + j ≤ b ∧ i + j ≤ kx ∧ dk.size = d.size ∧ Aside (SWK enc k w0 blk off dk wr) ∧ Aside (∀ t, d[rotI a m b t]! = dk[rotI (m - i) m (m + j) t]!))
  case atStart => exact ⟨m - a, b - m, d, by first | rfl | go_num | (congr 1; omega), by first | rfl | go_num | (congr 1; omega), by omega, by omega, by omega, by omega, by omega, rfl, S0, (show Aside _ from fun t => by rw [show m - (m - a) = a by omega, show m + (b - m) = b by omega])⟩
  case round =>
    clear S0
    obtain ⟨i, j, dk, rfl, rfl, hi0, hj0, hi, hj, hkx, hds, S1, HE⟩ := hrel
    by_cases heq : i = j
    · subst heq
      have hcall := swapRange k L enc g cb blk off cap (m - i) m i d0 dk w0 wr R (by omega) S1.out (by omega) (by omega) (by omega)
      rw [hds] at hcall
      have ecast : ((m - i : Nat) : Int) = (m : Int) - (i : Int) := by omega
      rw [ecast] at hcall
      clear S1
      go_wp2_with (go_at_fn 104; refine hcall.mono ?_; rintro e w1 ⟨rfl, d2, hd2, hat, S2⟩)
      go_end0
      refine ⟨rfl, d2, ⟨by rw [hd2], fun t => ?_⟩, S2⟩
      rw [HE.out, rot_even m i t (by omega), hat]
    · have hne : ¬ (i : Int) = (j : Int) := by omega
      by_cases hgt : j < i
      · have hgtz : (j : Int) < (i : Int) := by omega
        have hcall := swapRange k L enc g cb blk off cap (m - i) m j d0 dk w0 wr R (by omega) S1.out (by omega) (by omega) (by omega)
        rw [hds] at hcall
        have ecast : ((m - i : Nat) : Int) = (m : Int) - (i : Int) := by omega
        rw [ecast] at hcall
        clear S1
        go_wp2_with (go_at_fn 104; refine hcall.mono ?_; rintro e w1 ⟨rfl, d2, hd2, hat, S2⟩)
        go_roundg (i - j + j)
        case measure => omega
        case rel =>
          exact ⟨i - j, j, d2, by first | rfl | go_num | (congr 1; omega), rfl, by omega, by omega, by omega, by omega, by omega, by rw [hd2], S2, (show Aside _ from fun t => by rw [HE.out, rot_gt m i j t (by omega) hgt, hat])⟩
      · have hgtz : ¬ (j : Int) < (i : Int) := by omega
        have hcall := swapRange k L enc g cb blk off cap (m - i) (m + j - i) i d0 dk w0 wr R (by omega) S1.out (by omega) (by omega) (by omega)
        rw [hds] at hcall
        have ecast : ((m - i : Nat) : Int) = (m : Int) - (i : Int) := by omega
        have ecast2 : ((m + j - i : Nat) : Int) = (m : Int) + (j : Int) - (i : Int) := by omega
        rw [ecast, ecast2] at hcall
        clear S1
        go_wp2_with (go_at_fn 104; refine hcall.mono ?_; rintro e w1 ⟨rfl, d2, hd2, hat, S2⟩)
        go_roundg (i + (j - i))
        case measure => omega
        case rel =>
          exact ⟨i, j - i, d2, rfl, by first | rfl | go_num | (congr 1; omega), by omega, by omega, by omega, by omega, by omega, by rw [hd2], S2, (show Aside _ from fun t => by rw [HE.out, rot_lt m i j t (by omega) (by omega), hat])⟩
end Go.Proofs.YtdfndbegifdejaaDoorStab

/-! ### SymP -/
/- The library's stable sort: plain laws of the merge by rotation. -/
namespace Go.Proofs.YtdfndbegifdejaaDoorStab
set_option linter.unusedVariables false
set_option linter.unusedSimpArgs false
set_option linter.unusedSectionVars false
open Go.Sort
variable {α : Type} [Inhabited α] {d dk : Array α}

theorem rot_right (a c t : Nat) (h : a ≤ c) : rotI a (a + 1) (c + 1 + 1) t = if t = c + 1 then rotI a (a + 1) (c + 1) c else if t = c then rotI a (a + 1) (c + 1) (c + 1) else rotI a (a + 1) (c + 1) t := by
  unfold rotI; (repeat' split) <;> omega
theorem one_left {key : α → Int} {a b c : Nat} {d dk : Array α} (hX : Srt key a (a + 1) d) (hY : Srt key (a + 1) b d) (hac : a ≤ c) (hcb : c + 1 ≤ b) (hr : Rot a (a + 1) (c + 1) d dk)
    (hl : ∀ t, a + 1 ≤ t → t < c + 1 → key d[t]! < key d[a]!) (hg : ∀ t, c + 1 ≤ t → t < b → key d[a]! ≤ key d[t]!) : Seg key a b d dk ∧ Srt key a b dk := by
  have h2 : Srt key a (a + (c - a)) dk := Srt.shift (c - a) a (a + 1) (hY.mono _ _ (Nat.le_refl _) (by omega)) fun i hi => by rw [hr.at_, rotI_in1 (by omega)]
  refine merge_parts (m := a + 1) (s := a) (e := c + 1) (mid := a + (c + 1 - (a + 1))) (Nat.le_refl _) (by omega) (by omega) hcb rfl hX hY
    (fun i j h1 h3 h4 h5 => by obtain rfl : i = a := by omega
                               exact hl j h4 h5) (fun i j h1 h3 _ _ => by omega) hr Seg.refl (by rw [show a + (c + 1 - (a + 1)) = a + (c - a) by omega]; exact h2) Seg.refl ?_
  have e0 : dk[a + (c + 1 - (a + 1))]! = d[a]! := by
    rw [hr.at_, show a + (c + 1 - (a + 1)) = a + (c + 1 - (a + 1)) + 0 by omega, rotI_in2 (by omega) (by omega) (by omega)]; rfl
  intro i j hi hij hj
  have eo : ∀ t, c + 1 ≤ t → dk[t]! = d[t]! := fun t ht => by rw [hr.at_, rotI_out (by omega) (by omega) (.inr ht)]
  by_cases c1 : i = a + (c + 1 - (a + 1))
  · by_cases c2 : j = i
    · subst c2; exact Int.le_refl _
    · rw [c1, e0, eo j (by omega)]; exact hg j (by omega) hj
  · rw [eo i (by omega), eo j (by omega)]; exact hY i j (by omega) hij hj

theorem rot_left (c m t : Nat) (h : c < m) : rotI c m (m + 1) t = if t = c then rotI (c + 1) m (m + 1) (c + 1) else if t = c + 1 then rotI (c + 1) m (m + 1) c else rotI (c + 1) m (m + 1) t := by
  unfold rotI; (repeat' split) <;> omega
theorem one_right {key : α → Int} {a i m : Nat} {d dk : Array α} (hX : Srt key a m d) (hY : Srt key m (m + 1) d) (hai : a ≤ i) (him : i ≤ m) (hr : Rot i m (m + 1) d dk)
    (hl : ∀ t, a ≤ t → t < i → key d[t]! ≤ key d[m]!) (hg : ∀ t, i ≤ t → t < m → key d[m]! < key d[t]!) : Seg key a (m + 1) d dk ∧ Srt key a (m + 1) dk := by
  have e0 : dk[i]! = d[m]! := by rw [hr.at_]; have := rotI_in1 (l := i) (m := m) (r := m + 1) (i := 0) (by omega); simp at this; rw [this]
  have h2 : Srt key a (i + 1) dk := by
    intro p q hp hpq hq
    have eo : ∀ t, t < i → dk[t]! = d[t]! := fun t ht => by rw [hr.at_, rotI_out (by omega) (by omega) (.inl ht)]
    by_cases c1 : q = i
    · subst c1
      by_cases c2 : p = q
      · subst c2; exact Int.le_refl _
      · rw [e0, eo p (by omega)]; exact hl p hp (by omega)
    · rw [eo p (by omega), eo q (by omega)]; exact hX p q hp hpq (by omega)
  have h3 : Srt key (i + 1) (i + 1 + (m - i)) dk := Srt.shift (m - i) (i + 1) i (hX.mono _ _ hai (by omega)) fun t ht => by
    have := rotI_in2 (l := i) (m := m) (r := m + 1) (i := t) (by omega) (by omega) (by omega)
    rw [hr.at_, show i + 1 + t = i + (m + 1 - m) + t by omega, this]
  refine merge_parts (m := m) (s := i) (e := m + 1) (mid := i + (m + 1 - m)) hai him (by omega) (Nat.le_refl _) rfl hX hY
    (fun p q h1 h3 h4 h5 => by obtain rfl : q = m := by omega
                               exact hg p h1 h3) (fun p q h1 h3 h4 h5 => by omega) hr Seg.refl (by rw [show i + (m + 1 - m) = i + 1 by omega]; exact h2) Seg.refl (by rw [show i + (m + 1 - m) = i + 1 by omega, show m + 1 = i + 1 + (m - i) by omega]; exact h3)

end Go.Proofs.YtdfndbegifdejaaDoorStab

/-! ### SymQ -/
/- The library's stable sort: plain laws of the merge by rotation, the general case. -/
namespace Go.Proofs.YtdfndbegifdejaaDoorStab
set_option linter.unusedVariables false
set_option linter.unusedSimpArgs false
set_option linter.unusedSectionVars false
open Go.Sort
variable {α : Type} [Inhabited α] {key : α → Int} {a b m s e mid lo hi : Nat} {d d1 d2 : Array α}

/-- What the search for the place of the cut has found. -/
theorem cut_lo (hX : Srt key a m d) (hY : Srt key m b d) (hal : a ≤ lo) (hls : lo ≤ s) (hsh : s ≤ hi) (him : hi ≤ m) (hid : hi ≤ mid) (hend : mid + m ≤ b + lo) (F4 : hi = m ∨ hi = mid)
    (he : e + s = mid + m) (HR : ∀ t, s ≤ t → t < hi → key d[mid + m - 1 - t]! < key d[t]!) : ∀ i j, s ≤ i → i < m → m ≤ j → j < e → key d[j]! < key d[i]! := by
  intro i j h1 h2 h3 h4
  by_cases c : s < hi
  · have hr := HR s (Nat.le_refl _) c
    have e1 : mid + m - 1 - s = e - 1 := by omega
    rw [e1] at hr
    have h5 := hX s i (by omega) h1 h2
    have h6 := hY j (e - 1) h3 (by omega) (by omega)
    omega
  · omega
theorem cut_hi (hX : Srt key a m d) (hY : Srt key m b d) (hal : a ≤ lo) (hls : lo ≤ s) (hsh : s ≤ hi) (him : hi ≤ m) (hid : hi ≤ mid) (hend : mid + m ≤ b + lo) (F5 : lo = a ∨ lo + b = mid + m)
    (he : e + s = mid + m) (HL : ∀ t, lo ≤ t → t < s → key d[t]! ≤ key d[mid + m - 1 - t]!) : ∀ i j, a ≤ i → i < s → e ≤ j → j < b → key d[i]! ≤ key d[j]! := by
  intro i j h1 h2 h3 h4
  by_cases c : lo < s
  · have hl := HL (s - 1) (by omega) (by omega)
    have e1 : mid + m - 1 - (s - 1) = e := by omega
    rw [e1] at hl
    have h5 := hX i (s - 1) h1 (by omega) (by omega)
    have h6 := hY e j (by omega) h3 h4
    omega
  · omega
/-- The rotated array's four sorted pieces. -/
theorem rot_pieces (hX : Srt key a m d) (hY : Srt key m b d) (has : a ≤ s) (hsm : s ≤ m) (hme : m ≤ e) (heb : e ≤ b) (he : e + s = mid + m) (h : Rot s m e d d1) :
    Srt key a s d1 ∧ Srt key s mid d1 ∧ Srt key mid e d1 ∧ Srt key e b d1 := by
  refine ⟨(hX.mono a s (Nat.le_refl _) hsm).congr fun t h1 h2 => ?_, ?_, ?_, (hY.mono e b hme (Nat.le_refl _)).congr fun t h1 h2 => ?_⟩
  · rw [h.at_, rotI_out hsm hme (.inl h2)]
  · have := Srt.shift (key := key) (d := d) (d' := d1) (e - m) s m ((hY.mono m e (Nat.le_refl _) heb).mono m (m + (e - m)) (Nat.le_refl _) (by omega)) fun i hi => by rw [h.at_, rotI_in1 hi]
    rwa [show s + (e - m) = mid by omega] at this
  · have := Srt.shift (key := key) (d := d) (d' := d1) (m - s) mid s ((hX.mono s m has (Nat.le_refl _)).mono s (s + (m - s)) (Nat.le_refl _) (by omega)) fun i hi => by
      have := rotI_in2 (l := s) (m := m) (r := e) (i := i) hsm hme hi
      rw [h.at_, show mid + i = s + (e - m) + i by omega, this]
    rwa [show mid + (m - s) = e by omega] at this
  · rw [h.at_, rotI_out hsm hme (.inr h1)]
/-- Two sorted neighbours of which one is empty. -/
theorem srt_none (h1 : Srt key a s d) (h2 : Srt key s mid d) (h : ¬ (a < s ∧ s < mid)) (ha : a ≤ s) (hm : s ≤ mid) : Srt key a mid d := by
  by_cases c : a < s
  · have : s = mid := by omega
    subst this; exact h1
  · have : a = s := by omega
    subst this; exact h2
end Go.Proofs.YtdfndbegifdejaaDoorStab

/-! ### SymL -/
/- symMergeCmpFunc where the left part is one element. -/
namespace Go.Proofs.YtdfndbegifdejaaDoorStab
set_option linter.unusedVariables false
set_option linter.unusedSimpArgs false
set_option linter.unusedSectionVars false
open Go Go.Proofs Go.Shelf Go.RowKit Go.Lib Go.Sort
variable {P : Program} {α : Type} [Inhabited α]
set_option maxHeartbeats 4000000 in
set_option maxRecDepth 1000000 in
theorem symL (k : Nat) (L : Lays P k) (enc : α → List Value) (key : α → Int) (cf : α → α → Int) (hcf : ∀ x y, cf x y < 0 ↔ key x < key y) (g : Nat) (cb : Array Value) (eg : ∀ args w, (callFunc g args).run P w = .ok (.enter g args) w) (blk off cap : Nat) (d0 : Array α) (w0 : World)
    (hcmp : CmpLays P g cb enc k cf blk off d0.size w0) (R : RowK enc k w0 blk off d0) (hsz : d0.size < 4611686018427387904) (a m b : Nat) (d : Array α) (w : World) (hs : d.size = d0.size) (S : SWK enc k w0 blk off d w) (ham : a < m) (hmb : m < b) (hb : b ≤ d.size) (hX : Srt key a m d) (hY : Srt key m b d) (hyp1 : Aside (m = a + 1)) :
    Calls P 68 #[.slice (some ⟨blk, off, none⟩) d.size cap, .int .i64 a, .int .i64 m, .int .i64 b, .func (.func g) #[] cb] w fun e w' =>
      e = .returned (.tuple #[]) ∧ ∃ dk : Array α, Seg key a b d dk ∧ Srt key a b dk ∧ SWK enc k w0 blk off dk w' := by
    have mixed := L.mixed; have t0 := L.t0; have a0 := L.a0; have z0 := L.z0; have v0 := L.v0; have t3 := L.t3; have a3 := L.a3; have z3 := L.z3; have v3 := L.v3; have t4 := L.t4; have a4 := L.a4; have z4 := L.z4; have v4 := L.v4; have t22 := L.t22; have a22 := L.a22; have z22 := L.z22; have v22 := L.v22; have t35 := L.t35; have a35 := L.a35; have z35 := L.z35; have v35 := L.v35; have aE := L.aE; have zE := L.zE; have t115 := L.t115; have a115 := L.a115; have z115 := L.z115
    have u3 := run_underlying L.t3
    have u115 := run_underlying L.t115
    have FG := L.f68
    have HC : Aside _ := hcmp
    have S0 : Aside (SWK enc k w0 blk off d w) := S
    have HX : Aside _ := hX
    have HY : Aside _ := hY
    have HS : Aside (d.size = d0.size) := hs
    have hsz2 : d.size < 4611686018427387904 := by omega
    have HCF : Aside _ := hcf
    clear S hcmp hX hY hs hcf
    go_enter FG, Tryd.ntmps68
    by_cases h1 : m = a + 1
    · have h1z : (m : Int) - (a : Int) = 1 := by omega
      have hm1 : m ≤ a + 1 := by omega
      have H1 : Aside (m = a + 1) := h1
      clear h1
      go_wp2
      go_loopg [10, 11] (b - m) (fun kx s10 s11 wr => ∃ (i j : Nat), s10 = .int .i64 i ∧ s11 = .int .i64 j ∧ m ≤ i ∧ i ≤ j ∧ j ≤ b ∧ j - i ≤ kx ∧ Aside (SWK enc k w0 blk off d wr) ∧ Aside (∀ t, m ≤ t → t < i → key d[t]! < key d[a]!) ∧ Aside (∀ t, j ≤ t → t < b → key d[a]! ≤ key d[t]!))
      case atStart => exact ⟨m, b, rfl, rfl, Nat.le_refl _, by omega, Nat.le_refl _, Nat.le_refl _, S0, (show Aside _ from fun t h1 h2 => by omega), (show Aside _ from fun t h1 h2 => by omega)⟩
      case round =>
        clear S0
        obtain ⟨i, j, rfl, rfl, hmi, hij, hjb, hkx, S1, HL, HR⟩ := hrel
        by_cases hlt : i < j
        · have hltz : (i : Int) < (j : Int) := by omega
          obtain ⟨h, hh⟩ : ∃ h : Nat, (h : Int) = ((i : Int) + (j : Int)) / 2 := ⟨(i + j) / 2, by omega⟩
          have hh1 : i ≤ h := by omega
          have hh2 : h < j := by omega
          go_wp2_with fail
          rw [← hh]
          have HHH : Aside _ := hh
          clear hh
          have ea : ((h : Int) : Int).toNat = h := by omega
          have pa : (0 : Int) ≤ ((h : Int) : Int) := by omega
          have ba : ((h : Int) : Int) < (d.size : Int) := by omega
          have ra : IntKind.i64.wrap ((h : Int) : Int) = ((h : Int) : Int) := by rw [IntKind.wrap_i64]; omega
          have ec : ((a : Int) : Int).toNat = a := by omega
          have pc : (0 : Int) ≤ ((a : Int) : Int) := by omega
          have bc : ((a : Int) : Int) < (d.size : Int) := by omega
          have rc : IntKind.i64.wrap ((a : Int) : Int) = ((a : Int) : Int) := by rw [IntKind.wrap_i64]; omega
          obtain ⟨x38, hx38⟩ : ∃ x, x = d[h]! := ⟨_, rfl⟩
          obtain ⟨y38, hy38⟩ : ∃ x, x = d[a]! := ⟨_, rfl⟩
          have l38a := S1.out.ld R (by have := HS.out; omega) P (h) (by omega)
          have l38b := S1.out.ld R (by have := HS.out; omega) P (a) (by omega)
          rw [← hx38] at l38a
          rw [← hy38] at l38b
          have hc38 := S1.out.cmp HC.out (by have := HS.out; omega) x38 y38
          have hkey : cf x38 y38 < 0 ↔ key d[h]! < key d[a]! := by rw [hx38, hy38]; exact HCF.out _ _
          have HK : Aside _ := hkey
          clear hx38 hy38 hkey
          by_cases hv38 : cf x38 y38 < 0
          · have hd38 : decide (cf x38 y38 < 0) = true := decide_eq_true hv38
            have HL2 : Aside _ := HK.out.1 hv38
            go_wp2_with fail
            go_quiet_grown (first | (go_at_fn g; refine Calls.grown_of (hc38 _ _)))
            have S2 : Aside (SWK enc k w0 blk off d (grow (wr.drewN nq) osq)) := S1.out.grown nq osq
            clear l38a l38b hc38 S1
            generalize grow (wr.drewN nq) osq = w2 at S2 ⊢
            clear nq osq
            go_wp2
            go_roundg (j - (h + 1))
            case measure => omega
            case rel => exact ⟨h + 1, j, by first | rfl | go_num | (congr 1; omega), rfl, by omega, by omega, hjb, Nat.le_refl _, S2, (show Aside _ from fun t h3 h4 => Int.lt_of_le_of_lt (HY.out t h h3 (by omega) (by omega)) HL2.out), HR⟩
          · have hd38 : decide (cf x38 y38 < 0) = false := decide_eq_false hv38
            have HL2 : Aside _ := fun h => hv38 (HK.out.2 h)
            go_wp2_with fail
            go_quiet_grown (first | (go_at_fn g; refine Calls.grown_of (hc38 _ _)))
            have S2 : Aside (SWK enc k w0 blk off d (grow (wr.drewN nq) osq)) := S1.out.grown nq osq
            clear l38a l38b hc38 S1
            generalize grow (wr.drewN nq) osq = w2 at S2 ⊢
            clear nq osq
            go_wp2
            go_roundg (h - i)
            case measure => omega
            case rel => exact ⟨i, h, rfl, by first | rfl | go_num | (congr 1; omega), hmi, by omega, by omega, Nat.le_refl _, S2, HL, (show Aside _ from fun t h3 h4 => Int.le_trans (Int.not_lt.1 HL2.out) (HY.out h t (by omega) h3 h4))⟩
        · have hltz : ¬ (i : Int) < (j : Int) := by omega
          obtain rfl : i = j := by omega
          go_wp2
          go_loopg [13] (i - a) (fun kx s13 wr => ∃ (c : Nat) (dk : Array α), s13 = .int .i64 c ∧ a ≤ c ∧ c + 1 ≤ i ∧ i - c ≤ kx ∧ dk.size = d.size ∧ Aside (SWK enc k w0 blk off dk wr) ∧ Aside (∀ t, dk[t]! = d[rotI a (a + 1) (c + 1) t]!))
          case atStart => exact ⟨a, d, rfl, Nat.le_refl _, by omega, Nat.le_refl _, rfl, S1, (show Aside _ from (Rot.none d a (a + 1) (by omega)).2.at_)⟩
          case round =>
            clear S1
            obtain ⟨c, dk, rfl, hac, hci, hkx, hds, S1, HE⟩ := hrel
            by_cases hlt2 : c + 1 < i
            · have hltz2 : (c : Int) < (i : Int) - 1 := by omega
              go_wp2_with fail
              have ea : ((c : Int) : Int).toNat = c := by omega
              have pa : (0 : Int) ≤ ((c : Int) : Int) := by omega
              have ba : ((c : Int) : Int) < (d.size : Int) := by omega
              have ra : IntKind.i64.wrap ((c : Int) : Int) = ((c : Int) : Int) := by rw [IntKind.wrap_i64]; omega
              have ec : ((c : Int) + 1 : Int).toNat = c + 1 := by omega
              have pc : (0 : Int) ≤ ((c : Int) + 1 : Int) := by omega
              have bc : ((c : Int) + 1 : Int) < (d.size : Int) := by omega
              have rc : IntKind.i64.wrap ((c : Int) + 1 : Int) = ((c : Int) + 1 : Int) := by rw [IntKind.wrap_i64]; omega
              have S2 : Aside (SWK enc k w0 blk off (swp dk (c) (c + 1)) ((wr.drew.setCells blk (off + (c) * k) (enc dk[c + 1]!)).setCells blk (off + (c + 1) * k) (enc dk[c]!))) := S1.out.swapped R (c) (c + 1) (by omega) (by omega)
              have l44a := S1.out.ld1 R (by have := HS.out; omega) P (c) (by omega)
              have l44b := S1.out.ld1 R (by have := HS.out; omega) P (c + 1) (by omega)
              have s44a := S1.out.st1 R (by have := HS.out; omega) P (c) (by omega) dk[c + 1]!
              have s44b := S1.out.st2 R (by have := HS.out; omega) P (c) (c + 1) (by omega) (by omega) dk[c + 1]! dk[c]!
              have n44a : (enc dk[c]!).length = k := R.hk _
              have n44b : (enc dk[c + 1]!).length = k := R.hk _
              generalize enc dk[c]! = cI44 at S2 l44a s44b n44a
              generalize enc dk[c + 1]! = cJ44 at S2 l44b s44a s44b n44b
              clear S1
              go_wp2_with fail
              go_big_region_o
              clear l44a l44b s44a s44b
              generalize (wr.drew.setCells blk (off + (c) * k) cJ44).setCells blk (off + (c + 1) * k) cI44 = w2 at S2 ⊢
              go_wp2
              go_roundg (i - (c + 1))
              case measure => omega
              case rel =>
                refine ⟨c + 1, swp dk c (c + 1), by first | rfl | go_num | (congr 1; omega), by omega, by omega, Nat.le_refl _, by rw [size_swp]; exact hds, S2, (show Aside _ from fun t => ?_)⟩
                rw [swp_get dk (by omega) (by omega), HE.out, HE.out, HE.out, rot_right a c t hac]
                by_cases e1 : t = c + 1
                · rw [if_pos e1, if_pos e1]
                · rw [if_neg e1, if_neg e1]
                  by_cases e2 : t = c
                  · rw [if_pos e2, if_pos e2]
                  · rw [if_neg e2, if_neg e2]
            · have hltz2 : ¬ (c : Int) < (i : Int) - 1 := by omega
              obtain rfl : i = c + 1 := by omega
              have HF : Aside (Seg key a b d dk ∧ Srt key a b dk) := by
                obtain rfl := H1.out
                have hr : Rot a (a + 1) (c + 1) d dk := ⟨hds, HE.out⟩
                refine one_left HX.out HY.out (by omega) (by omega) hr HL.out HR.out
              go_wp2
              (try simp only [Exit.inBlock, Exit.then]); refine bodyPost_ret (results_none rfl _ _ _) rfl ?_
              exact ⟨rfl, dk, HF.out.1, HF.out.2, S1.out⟩
    · exact absurd hyp1.out h1
end Go.Proofs.YtdfndbegifdejaaDoorStab

/-! ### SymO -/
/- symMergeCmpFunc where the right part is one element. -/
namespace Go.Proofs.YtdfndbegifdejaaDoorStab
set_option linter.unusedVariables false
set_option linter.unusedSimpArgs false
set_option linter.unusedSectionVars false
open Go Go.Proofs Go.Shelf Go.RowKit Go.Lib Go.Sort
variable {P : Program} {α : Type} [Inhabited α]
set_option maxHeartbeats 4000000 in
set_option maxRecDepth 1000000 in
theorem symO (k : Nat) (L : Lays P k) (enc : α → List Value) (key : α → Int) (cf : α → α → Int) (hcf : ∀ x y, cf x y < 0 ↔ key x < key y) (g : Nat) (cb : Array Value) (eg : ∀ args w, (callFunc g args).run P w = .ok (.enter g args) w) (blk off cap : Nat) (d0 : Array α) (w0 : World)
    (hcmp : CmpLays P g cb enc k cf blk off d0.size w0) (R : RowK enc k w0 blk off d0) (hsz : d0.size < 4611686018427387904) (a m b : Nat) (d : Array α) (w : World) (hs : d.size = d0.size) (S : SWK enc k w0 blk off d w) (ham : a < m) (hmb : m < b) (hb : b ≤ d.size) (hX : Srt key a m d) (hY : Srt key m b d) (hyp1 : Aside (¬ m = a + 1)) (hyp2 : Aside (b = m + 1)) :
    Calls P 68 #[.slice (some ⟨blk, off, none⟩) d.size cap, .int .i64 a, .int .i64 m, .int .i64 b, .func (.func g) #[] cb] w fun e w' =>
      e = .returned (.tuple #[]) ∧ ∃ dk : Array α, Seg key a b d dk ∧ Srt key a b dk ∧ SWK enc k w0 blk off dk w' := by
    have mixed := L.mixed; have t0 := L.t0; have a0 := L.a0; have z0 := L.z0; have v0 := L.v0; have t3 := L.t3; have a3 := L.a3; have z3 := L.z3; have v3 := L.v3; have t4 := L.t4; have a4 := L.a4; have z4 := L.z4; have v4 := L.v4; have t22 := L.t22; have a22 := L.a22; have z22 := L.z22; have v22 := L.v22; have t35 := L.t35; have a35 := L.a35; have z35 := L.z35; have v35 := L.v35; have aE := L.aE; have zE := L.zE; have t115 := L.t115; have a115 := L.a115; have z115 := L.z115
    have u3 := run_underlying L.t3
    have u115 := run_underlying L.t115
    have FG := L.f68
    have HC : Aside _ := hcmp
    have S0 : Aside (SWK enc k w0 blk off d w) := S
    have HX : Aside _ := hX
    have HY : Aside _ := hY
    have HS : Aside (d.size = d0.size) := hs
    have hsz2 : d.size < 4611686018427387904 := by omega
    have HCF : Aside _ := hcf
    clear S hcmp hX hY hs hcf
    go_enter FG, Tryd.ntmps68
    by_cases h1 : m = a + 1
    · exact absurd h1 hyp1.out
    · have h1z : ¬ (m : Int) - (a : Int) = 1 := by omega
      have h1b : ((m : Int) - (a : Int) == 1) = false := by simpa using h1z
      by_cases h2 : b = m + 1
      · have h2z : (b : Int) - (m : Int) = 1 := by omega
        have hm2 : b ≤ m + 1 := by omega
        have H2 : Aside (b = m + 1) := h2
        clear h2
        go_wp2
        go_loopg [14, 15] (m - a) (fun kx s10 s11 wr => ∃ (i j : Nat), s10 = .int .i64 i ∧ s11 = .int .i64 j ∧ a ≤ i ∧ i ≤ j ∧ j ≤ m ∧ j - i ≤ kx ∧ Aside (SWK enc k w0 blk off d wr) ∧ Aside (∀ t, a ≤ t → t < i → key d[t]! ≤ key d[m]!) ∧ Aside (∀ t, j ≤ t → t < m → key d[m]! < key d[t]!))
        case atStart => exact ⟨a, m, rfl, rfl, Nat.le_refl _, by omega, Nat.le_refl _, Nat.le_refl _, S0, (show Aside _ from fun t h1 h2 => by omega), (show Aside _ from fun t h1 h2 => by omega)⟩
        case round =>
          clear S0
          obtain ⟨i, j, rfl, rfl, hmi, hij, hjb, hkx, S1, HL, HR⟩ := hrel
          by_cases hlt : i < j
          · have hltz : (i : Int) < (j : Int) := by omega
            obtain ⟨h, hh⟩ : ∃ h : Nat, (h : Int) = ((i : Int) + (j : Int)) / 2 := ⟨(i + j) / 2, by omega⟩
            have hh1 : i ≤ h := by omega
            have hh2 : h < j := by omega
            go_wp2_with fail
            rw [← hh]
            have HHH : Aside _ := hh
            clear hh
            have ea : ((m : Int) : Int).toNat = m := by omega
            have pa : (0 : Int) ≤ ((m : Int) : Int) := by omega
            have ba : ((m : Int) : Int) < (d.size : Int) := by omega
            have ra : IntKind.i64.wrap ((m : Int) : Int) = ((m : Int) : Int) := by rw [IntKind.wrap_i64]; omega
            have ec : ((h : Int) : Int).toNat = h := by omega
            have pc : (0 : Int) ≤ ((h : Int) : Int) := by omega
            have bc : ((h : Int) : Int) < (d.size : Int) := by omega
            have rc : IntKind.i64.wrap ((h : Int) : Int) = ((h : Int) : Int) := by rw [IntKind.wrap_i64]; omega
            obtain ⟨x38, hx38⟩ : ∃ x, x = d[m]! := ⟨_, rfl⟩
            obtain ⟨y38, hy38⟩ : ∃ x, x = d[h]! := ⟨_, rfl⟩
            have l38a := S1.out.ld R (by have := HS.out; omega) P (m) (by omega)
            have l38b := S1.out.ld R (by have := HS.out; omega) P (h) (by omega)
            rw [← hx38] at l38a
            rw [← hy38] at l38b
            have hc38 := S1.out.cmp HC.out (by have := HS.out; omega) x38 y38
            have hkey : cf x38 y38 < 0 ↔ key d[m]! < key d[h]! := by rw [hx38, hy38]; exact HCF.out _ _
            have HK : Aside _ := hkey
            clear hx38 hy38 hkey
            by_cases hv38 : cf x38 y38 < 0
            · have hd38 : decide (cf x38 y38 < 0) = true := decide_eq_true hv38
              have HL2 : Aside _ := HK.out.1 hv38
              go_wp2_with fail
              go_quiet_grown (first | (go_at_fn g; refine Calls.grown_of (hc38 _ _)))
              have S2 : Aside (SWK enc k w0 blk off d (grow (wr.drewN nq) osq)) := S1.out.grown nq osq
              clear l38a l38b hc38 S1
              generalize grow (wr.drewN nq) osq = w2 at S2 ⊢
              clear nq osq
              go_wp2
              go_roundg (h - i)
              case measure => omega
              case rel => exact ⟨i, h, rfl, by first | rfl | go_num | (congr 1; omega), hmi, by omega, by omega, Nat.le_refl _, S2, HL, (show Aside _ from fun t h3 h4 => Int.lt_of_lt_of_le HL2.out (HX.out h t (by omega) h3 h4))⟩
            · have hd38 : decide (cf x38 y38 < 0) = false := decide_eq_false hv38
              have HL2 : Aside _ := fun h => hv38 (HK.out.2 h)
              go_wp2_with fail
              go_quiet_grown (first | (go_at_fn g; refine Calls.grown_of (hc38 _ _)))
              have S2 : Aside (SWK enc k w0 blk off d (grow (wr.drewN nq) osq)) := S1.out.grown nq osq
              clear l38a l38b hc38 S1
              generalize grow (wr.drewN nq) osq = w2 at S2 ⊢
              clear nq osq
              go_wp2
              go_roundg (j - (h + 1))
              case measure => omega
              case rel => exact ⟨h + 1, j, by first | rfl | go_num | (congr 1; omega), rfl, by omega, by omega, hjb, Nat.le_refl _, S2, (show Aside _ from fun t h3 h4 => Int.le_trans (HX.out t h h3 (by omega) (by omega)) (Int.not_lt.1 HL2.out)), HR⟩
          · have hltz : ¬ (i : Int) < (j : Int) := by omega
            obtain rfl : i = j := by omega
            go_wp2
            go_loopg [17] (m - i) (fun kx s13 wr => ∃ (c : Nat) (dk : Array α), s13 = .int .i64 c ∧ i ≤ c ∧ c ≤ m ∧ c - i ≤ kx ∧ dk.size = d.size ∧ Aside (SWK enc k w0 blk off dk wr) ∧ Aside (∀ t, dk[t]! = d[rotI c m (m + 1) t]!))
            case atStart => exact ⟨m, d, rfl, by omega, Nat.le_refl _, by omega, rfl, S1, (show Aside _ from (Rot.none d m (m + 1) (by omega)).1.at_)⟩
            case round =>
              clear S1
              obtain ⟨c, dk, rfl, hac, hci, hkx, hds, S1, HE⟩ := hrel
              by_cases hlt2 : i < c
              · have hltz2 : (i : Int) < (c : Int) := by omega
                obtain ⟨cp, rfl⟩ : ∃ q, c = q + 1 := ⟨c - 1, by omega⟩
                go_wp2_with fail
                have ea : ((cp : Int) + 1 : Int).toNat = cp + 1 := by omega
                have pa : (0 : Int) ≤ ((cp : Int) + 1 : Int) := by omega
                have ba : ((cp : Int) + 1 : Int) < (d.size : Int) := by omega
                have ra : IntKind.i64.wrap ((cp : Int) + 1 : Int) = ((cp : Int) + 1 : Int) := by rw [IntKind.wrap_i64]; omega
                have ec : ((cp : Int) : Int).toNat = cp := by omega
                have pc : (0 : Int) ≤ ((cp : Int) : Int) := by omega
                have bc : ((cp : Int) : Int) < (d.size : Int) := by omega
                have rc : IntKind.i64.wrap ((cp : Int) : Int) = ((cp : Int) : Int) := by rw [IntKind.wrap_i64]; omega
                have S2 : Aside (SWK enc k w0 blk off (swp dk (cp + 1) (cp)) ((wr.drew.setCells blk (off + (cp + 1) * k) (enc dk[cp]!)).setCells blk (off + (cp) * k) (enc dk[cp + 1]!))) := S1.out.swapped R (cp + 1) (cp) (by omega) (by omega)
                have l44a := S1.out.ld1 R (by have := HS.out; omega) P (cp + 1) (by omega)
                have l44b := S1.out.ld1 R (by have := HS.out; omega) P (cp) (by omega)
                have s44a := S1.out.st1 R (by have := HS.out; omega) P (cp + 1) (by omega) dk[cp]!
                have s44b := S1.out.st2 R (by have := HS.out; omega) P (cp + 1) (cp) (by omega) (by omega) dk[cp]! dk[cp + 1]!
                have n44a : (enc dk[cp + 1]!).length = k := R.hk _
                have n44b : (enc dk[cp]!).length = k := R.hk _
                generalize enc dk[cp + 1]! = cI44 at S2 l44a s44b n44a
                generalize enc dk[cp]! = cJ44 at S2 l44b s44a s44b n44b
                clear S1
                go_wp2_with fail
                go_big_region_o
                clear l44a l44b s44a s44b
                generalize (wr.drew.setCells blk (off + (cp + 1) * k) cJ44).setCells blk (off + (cp) * k) cI44 = w2 at S2 ⊢
                go_wp2
                go_roundg (cp - i)
                case measure => omega
                case rel =>
                  refine ⟨cp, swp dk (cp + 1) cp, by first | rfl | go_num | (congr 1; omega), by omega, by omega, Nat.le_refl _, by rw [size_swp]; exact hds, S2, (show Aside _ from fun t => ?_)⟩
                  rw [swp_get dk (by omega) (by omega), HE.out, HE.out, HE.out, rot_left cp m t (by omega)]
                  by_cases e1 : t = cp
                  · rw [if_pos e1, if_pos e1]
                  · rw [if_neg e1, if_neg e1]
                    by_cases e2 : t = cp + 1
                    · rw [if_pos e2, if_pos e2]
                    · rw [if_neg e2, if_neg e2]
              · have hltz2 : ¬ (i : Int) < (c : Int) := by omega
                obtain rfl : i = c := by omega
                have HF : Aside (Seg key a b d dk ∧ Srt key a b dk) := by
                  obtain rfl := H2.out
                  have hr : Rot i m (m + 1) d dk := ⟨hds, HE.out⟩
                  exact one_right HX.out HY.out hmi hjb hr HL.out HR.out
                go_wp2
                (try simp only [Exit.inBlock, Exit.then]); refine bodyPost_ret (results_none rfl _ _ _) rfl ?_
                exact ⟨rfl, dk, HF.out.1, HF.out.2, S1.out⟩
      · exact absurd hyp2.out h2
end Go.Proofs.YtdfndbegifdejaaDoorStab
