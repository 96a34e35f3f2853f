/- Plain laws of the document's reader of numbers. -/
import Derived.Test.YtdfndbegifdejaaNumP
namespace Go.Proofs.Ytdfndbegifdejaa.GParses
set_option linter.unusedVariables false
set_option linter.unusedSimpArgs false
open Go.RowKit Go.Proofs.YtdfndbegifdejaaW.PrintWords Go.Proofs.YtdfndbegifdejaaW.PrintLast Go.Proofs.YtdfndbegifdejaaW.PrintMore

theorem ext_size (s : ByteArray) (a b : Nat) (hb : b ≤ s.size) : (s.extract a b).size = b - a := by
  rw [ByteArray.size_extract]; omega
theorem ext_byte (s : ByteArray) (a b i : Nat) (hb : b ≤ s.size) (hi : a + i < b) : bt (s.extract a b) (i : Int) = by_ s (a + i) := by
  unfold by_ bt
  have h1 : (i : Int).toNat < (s.extract a b).size := by rw [ext_size s a b hb]; omega
  have h2 : ((a + i : Nat) : Int).toNat < s.size := by omega
  rw [dif_pos h1, dif_pos h2]
  simp only [Int.toNat_natCast]
  congr 2
  exact ByteArray.getElem_extract _

theorem begins_l0 (s : ByteArray) (L : Int) (hL : 9 ≤ L) (hL2 : L ≤ 9223372036854775808) (hsz : s.size ≤ 1048576) (a m : Nat) (hg : Good s L a m) (hin : a + m < s.size) (hnz : by_ s a ≠ 48) :
    ∀ (d j k : Nat), j + d = m → 2 * d + 4 < k → payoffref03_begins.l0 k (s.extract a (a + m + 1)) L (vv s a j) (j : Int) = some (decide (Step s L a m)) := by
  have hes : ((s.extract a (a + m + 1)).size : Int) = ((m + 1 : Nat) : Int) := by rw [ext_size s a (a + m + 1) (by omega)]; omega
  have hw : ∀ j, 48 ≤ by_ s (a + j) → by_ s (a + j) ≤ 57 → IntKind.u64.wrap (Int.tdiv (IntKind.u64.wrap (L - (by_ s (a + j) - 48) % 256)) 10) = (L - (by_ s (a + j) - 48)) / 10 := by
    intro j h1 h2
    rw [show (by_ s (a + j) - 48) % 256 = by_ s (a + j) - 48 by omega, u64_id (n := L - (by_ s (a + j) - 48)) (by omega) (by omega), tdiv10 (by omega), u64_id (by omega) (by omega)]
  have hn : ∀ j, 48 ≤ by_ s (a + j) → by_ s (a + j) ≤ 57 → 0 ≤ vv s a j → vv s a j ≤ (L - (by_ s (a + j) - 48)) / 10 → IntKind.u64.wrap (IntKind.u64.wrap (10 * vv s a j) + (by_ s (a + j) - 48) % 256) = vv s a (j + 1) := by
    intro j h1 h2 h3 h4
    rw [show (by_ s (a + j) - 48) % 256 = by_ s (a + j) - 48 by omega, u64_id (n := 10 * vv s a j) (by omega) (by omega), u64_id (by omega) (by omega)]; rfl
  intro d
  induction d with
  | zero =>
    intro j k hj hk
    obtain rfl : j = m := by omega
    obtain ⟨k, rfl⟩ : ∃ q, k = q + 3 := ⟨k - 3, by omega⟩
    have hv := vv_range hL hg
    have hb := ext_byte s a (a + j + 1) j (by omega) (by omega)
    simp only [payoffref03_begins.l0]
    rw [hes, if_pos (by omega), if_pos (by omega), hb]
    by_cases h48 : by_ s (a + j) < 48
    · rw [if_pos h48, decide_eq_false (fun h : Step s L a j => by have := h.2.1; omega)]
      simp only [payoffref03_begins.j1, if_true]
    · rw [if_neg h48]
      by_cases h57 : by_ s (a + j) > 57
      · rw [decide_eq_true h57, decide_eq_false (fun h : Step s L a j => by have := h.2.2.1; omega)]
        simp only [payoffref03_begins.j1, if_true]
      · rw [decide_eq_false h57]
        simp only [payoffref03_begins.j1, Bool.false_eq_true, if_false]
        rw [if_pos (by omega), hes, if_pos (by omega), hb, hw j (by omega) (by omega)]
        by_cases hgt : vv s a j > (L - (by_ s (a + j) - 48)) / 10
        · rw [if_pos hgt, decide_eq_false (fun h : Step s L a j => by have := h.2.2.2.2; omega)]
        · rw [if_neg hgt, decide_eq_true (show Step s L a j from ⟨hin, by omega, by omega, fun hz => hnz ((vv_pos hL hg hz.1).1 hz.2).1, by omega⟩)]
          obtain ⟨k, rfl⟩ : ∃ q, k = q + 1 := ⟨k - 1, by omega⟩
          rw [w64_nat j (by omega)]
          simp only [payoffref03_begins.l0]
          rw [hes, if_neg (by omega)]
  | succ d ih =>
    intro j k hj hk
    obtain ⟨k, rfl⟩ : ∃ q, k = q + 2 := ⟨k - 2, by omega⟩
    obtain ⟨hin', h48, h57, hz, hle⟩ := hg j (by omega)
    have hv := vv_range hL (hg.le (show j ≤ m by omega))
    have hb := ext_byte s a (a + m + 1) j (by omega) (by omega)
    simp only [payoffref03_begins.l0]
    rw [hes, if_pos (by omega), if_pos (by omega), hb, if_neg (by omega), decide_eq_false (show ¬ by_ s (a + j) > 57 by omega)]
    simp only [payoffref03_begins.j1, Bool.false_eq_true, if_false]
    rw [if_pos (by omega), hes, if_pos (by omega), hb, hw j h48 h57, if_neg (by omega), hn j h48 h57 hv.1 hle, w64_nat j (by omega)]
    exact ih (j + 1) k (by omega) (by omega)

theorem begins_f (s : ByteArray) (L : Int) (hL : 9 ≤ L) (hL2 : L ≤ 9223372036854775808) (hsz : s.size ≤ 1048576) (a m : Nat) (hg : Good s L a m) (hin : a + m < s.size) (k : Nat) (hk : 2 * m + 4 < k) :
    payoffref03_begins.f k (s.extract a (a + m + 1)) L = some (decide (Step s L a m)) := by
  have hes : ((s.extract a (a + m + 1)).size : Int) = ((m + 1 : Nat) : Int) := by rw [ext_size s a (a + m + 1) (by omega)]; omega
  have hb := ext_byte s a (a + m + 1) 0 (by omega) (by omega)
  unfold payoffref03_begins.f
  rw [hes, if_pos (by omega)]
  rw [show bt (s.extract a (a + m + 1)) 0 = by_ s a from hb]
  by_cases h0 : by_ s a = 48
  · rw [if_pos h0]
    congr 1
    rcases Nat.eq_zero_or_pos m with hm | hm
    · subst hm
      rw [decide_eq_true (show Step s L a 0 from ⟨hin, by rw [Nat.add_zero]; omega, by rw [Nat.add_zero]; omega, fun h => by omega, by rw [Nat.add_zero]; simp only [vv]; omega⟩)]
      rfl
    · have hne : ¬ Step s L a m := by
        intro hst
        rcases Nat.lt_or_ge 1 m with h1 | h1
        · have h2 := (hg 1 h1).2.2.2.1
          exact h2 ⟨by omega, by simp only [vv, Nat.add_zero]; omega⟩
        · have hm1 : m = 1 := by omega
          subst hm1
          exact hst.2.2.2.1 ⟨by omega, by simp only [vv, Nat.add_zero]; omega⟩
      rw [decide_eq_false hne]
      simp; omega
  · rw [if_neg h0]
    exact begins_l0 s L hL hL2 hsz a m hg hin h0 m 0 k (by omega) hk

/-- The document's number: from the first digit's place on; 'from' is a, the whole began at b. -/
theorem number_ref (s : ByteArray) (L : Int) (hL : 9 ≤ L) (hL2 : L ≤ 9223372036854775808) (hsz : s.size ≤ 1048576) (b a m : Nat) (hba : b ≤ a) (hg : Good s L a m) (hs : ¬ Step s L a m) (ham : a + m ≤ s.size) (hneg : b < a → a < s.size → by_ s a ≠ 48) :
    ∀ (d j k : Nat), j + d = m → 4 * m + 2 * d + 10 < k → payoffref03_number.l0 k s (b : Int) L (a : Int) ((a + j : Nat) : Int) = some (((a + m : Nat) : Int), decide (0 < m)) := by
  intro d
  induction d with
  | zero =>
    intro j k hj hk
    obtain rfl : j = m := by omega
    obtain ⟨k, rfl⟩ : ∃ q, k = q + 2 := ⟨k - 2, by omega⟩
    have he : decide (((a + j : Nat) : Int) > (a : Int)) = decide (0 < j) := by
      by_cases h : 0 < j
      · rw [decide_eq_true h, decide_eq_true (by omega)]
      · rw [decide_eq_false h, decide_eq_false (by omega)]
    simp only [payoffref03_number.l0]
    by_cases hin : a + j < s.size
    · rw [if_pos (by omega), if_pos (by omega), w64_nat (a + j) (by omega), if_pos (by omega), if_pos (by omega)]
      have hbg := begins_f s L hL hL2 hsz a j hg hin (k + 1) (by omega)
      rw [show ((a : Int)).toNat = a from rfl, show (((a + j + 1 : Nat) : Int)).toNat = a + j + 1 from rfl, hbg, decide_eq_false hs]
      simp only [Option.bind_some, payoffref03_number.j3, Bool.false_eq_true, if_false, he]
    · rw [if_neg (by omega)]
      simp only [payoffref03_number.j3, Bool.false_eq_true, if_false, he]
  | succ d ih =>
    intro j k hj hk
    obtain ⟨k, rfl⟩ : ∃ q, k = q + 2 := ⟨k - 2, by omega⟩
    have hst := hg j (by omega)
    have hin := hst.1
    simp only [payoffref03_number.l0]
    rw [if_pos (by omega), if_pos (by omega), w64_nat (a + j) (by omega), if_pos (by omega), if_pos (by omega)]
    have hbg := begins_f s L hL hL2 hsz a j (hg.le (by omega)) hin (k + 1) (by omega)
    rw [show ((a : Int)).toNat = a from rfl, show (((a + j + 1 : Nat) : Int)).toNat = a + j + 1 from rfl, hbg, decide_eq_true hst]
    simp only [Option.bind_some, payoffref03_number.j3, if_true]
    have hih := ih (j + 1) k (by omega) (by omega)
    rw [w64_nat (a + j) (by omega)]
    by_cases hab : (a : Int) > (b : Int)
    · rw [if_pos hab, if_pos (by omega), if_pos (by omega), if_pos (by omega), if_neg]
      · exact hih
      · rw [show ((a : Int)).toNat = a from rfl, show (((a + j + 1 : Nat) : Int)).toNat = a + j + 1 from rfl]
        intro he
        have hl : (s.extract a (a + j + 1)).size = 1 := by
          have h1 : (s.extract a (a + j + 1)).toList.length = 1 := by rw [he]; rfl
          rw [ByteArray.toList_eq, Array.length_toList] at h1
          exact h1
        rw [ext_size s a (a + j + 1) (by omega)] at hl
        have hj0 : j = 0 := by omega
        subst hj0
        have hb0 := ext_byte s a (a + 0 + 1) 0 (by omega) (by omega)
        have h48 : bt (s.extract a (a + 0 + 1)) ((0 : Nat) : Int) = 48 := by
          have hd : (s.extract a (a + 0 + 1)).data.toList = [48] := by rw [← ByteArray.toList_eq]; exact he
          unfold bt
          have h1 : ((0 : Nat) : Int).toNat < (s.extract a (a + 0 + 1)).size := by rw [ext_size s a (a + 0 + 1) (by omega)]; omega
          rw [dif_pos h1]
          have h2 : (s.extract a (a + 0 + 1)).data.toList[0]? = some 48 := by rw [hd]; rfl
          rw [Array.getElem?_toList] at h2
          obtain ⟨h3, h4⟩ := Array.getElem?_eq_some_iff.1 h2
          have h5 : (s.extract a (a + 0 + 1))[((0 : Nat) : Int).toNat]'h1 = 48 := h4
          rw [h5]; rfl
        exact hneg (by omega) (by omega) (by rw [← hb0.symm.trans h48]; rfl)
    · rw [if_neg hab]; exact hih
end Go.Proofs.Ytdfndbegifdejaa.GParses
