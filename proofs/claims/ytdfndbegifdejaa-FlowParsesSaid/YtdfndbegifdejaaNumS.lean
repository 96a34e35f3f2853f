/- Plain laws: numbers with a sign, values, single bytes. -/
import Derived.Test.YtdfndbegifdejaaNumR
namespace Go.Proofs.Ytdfndbegifdejaa.GParses
set_option linter.unusedVariables false
set_option linter.unusedSimpArgs false
open Go.RowKit Go.Proofs.YtdfndbegifdejaaW.PrintWords Go.Proofs.YtdfndbegifdejaaW.PrintLast Go.Proofs.YtdfndbegifdejaaW.PrintMore

/-- More rounds than any of these readers needs on a text. -/
def Enough (s : ByteArray) (k : Nat) : Prop := 8 * s.size + 40 < k
theorem num_prog (s : ByteArray) (L : Int) (hL : 9 ≤ L) (hL2 : L ≤ 9223372036854775808) (hsz : s.size ≤ 1048576) (a m k : Nat) (hg : Good s L a m) (hs : ¬ Step s L a m) (ham : a + m ≤ s.size) (hk : Enough s k) :
    flow_reader_number.f k s (a : Int) L = some (numAns s a m) := by
  have h := number_l0 s L hL hL2 hsz a m hg hs ham m 0 k (by omega) (by unfold Enough at hk; omega)
  simpa [flow_reader_number.f, vv] using h
theorem num_ref (s : ByteArray) (L : Int) (hL : 9 ≤ L) (hL2 : L ≤ 9223372036854775807) (hsz : s.size ≤ 1048576) (a m k : Nat) (hg : Good s L a m) (hs : ¬ Step s L a m) (ham : a + m ≤ s.size) (hk : Enough s k) :
    payoffref03_number.f k s (a : Int) L false = some (((a + m : Nat) : Int), decide (0 < m)) := by
  unfold Enough at hk
  obtain ⟨k, rfl⟩ : ∃ q, k = q + 2 := ⟨k - 2, by omega⟩
  unfold payoffref03_number.f
  simp only [Bool.false_eq_true, if_false, payoffref03_number.j0, payoffref03_number.j1]
  exact number_ref s L hL (by omega) hsz a a m (by omega) hg hs ham (fun h => by omega) m 0 k (by omega) (by omega)
theorem num_ref_plain (s : ByteArray) (L : Int) (hL : 9 ≤ L) (hL2 : L ≤ 9223372036854775807) (hsz : s.size ≤ 1048576) (a m k : Nat) (hg : Good s L a m) (hs : ¬ Step s L a m) (ham : a + m ≤ s.size) (hk : Enough s k) (hno : a < s.size → by_ s a ≠ 45) :
    payoffref03_number.f k s (a : Int) L true = some (((a + m : Nat) : Int), decide (0 < m)) := by
  unfold Enough at hk
  obtain ⟨k, rfl⟩ : ∃ q, k = q + 2 := ⟨k - 2, by omega⟩
  have hl := number_ref s L hL (by omega) hsz a a m (by omega) hg hs ham (fun h => by omega) m 0 k (by omega) (by omega)
  unfold payoffref03_number.f
  rw [if_pos rfl]
  by_cases hin : a < s.size
  · rw [if_pos (by omega), if_pos (by omega), show bt s (a : Int) = by_ s a from rfl, beq_eq_false_iff_ne.2 (hno hin)]
    simp only [payoffref03_number.j0, Bool.false_eq_true, if_false, payoffref03_number.j1]
    exact hl
  · rw [if_neg (by omega)]
    simp only [payoffref03_number.j0, Bool.false_eq_true, if_false, payoffref03_number.j1]
    exact hl
theorem num_ref_minus (s : ByteArray) (hsz : s.size ≤ 1048576) (a m k : Nat) (hin : a < s.size) (hm : by_ s a = 45) (hg : Good s 9223372036854775808 (a + 1) m) (hs : ¬ Step s 9223372036854775808 (a + 1) m) (ham : a + 1 + m ≤ s.size) (hk : Enough s k) (hno : a + 1 < s.size → by_ s (a + 1) ≠ 48) :
    payoffref03_number.f k s (a : Int) 9223372036854775807 true = some (((a + 1 + m : Nat) : Int), decide (0 < m)) := by
  unfold Enough at hk
  obtain ⟨k, rfl⟩ : ∃ q, k = q + 2 := ⟨k - 2, by omega⟩
  have hl := number_ref s 9223372036854775808 (by omega) (by omega) hsz a (a + 1) m (by omega) hg hs ham (fun _ h => hno h) m 0 k (by omega) (by omega)
  unfold payoffref03_number.f
  rw [if_pos rfl, if_pos (by omega), if_pos (by omega), show bt s (a : Int) = by_ s a from rfl, beq_iff_eq.2 hm]
  simp only [payoffref03_number.j0, if_true, payoffref03_number.j1]
  rw [u64_id (by omega) (by omega), w64_nat a (by omega)]
  exact hl
theorem num_ref_minus0 (s : ByteArray) (hsz : s.size ≤ 1048576) (a k : Nat) (hin : a + 1 < s.size) (hm : by_ s a = 45) (h0 : by_ s (a + 1) = 48) (hk : Enough s k) :
    payoffref03_number.f k s (a : Int) 9223372036854775807 true = some (((a + 1 : Nat) : Int), false) := by
  unfold Enough at hk
  obtain ⟨k, rfl⟩ : ∃ q, k = q + 4 := ⟨k - 4, by omega⟩
  have hbg := begins_f s 9223372036854775808 (by omega) (by omega) hsz (a + 1) 0 (fun j hj => by omega) (by omega) (k + 1) (by omega)
  have hst : Step s 9223372036854775808 (a + 1) 0 := ⟨by omega, by rw [Nat.add_zero]; omega, by rw [Nat.add_zero]; omega, fun h => by omega, by rw [Nat.add_zero]; simp only [vv]; omega⟩
  unfold payoffref03_number.f
  rw [if_pos rfl, if_pos (by omega), if_pos (by omega), show bt s (a : Int) = by_ s a from rfl, beq_iff_eq.2 hm]
  simp only [payoffref03_number.j0, if_true, payoffref03_number.j1, payoffref03_number.l0]
  rw [u64_id (by omega) (by omega), show (9223372036854775807 : Int) + 1 = 9223372036854775808 from rfl, w64_nat a (by omega), if_pos (by omega), if_pos (by omega), w64_nat (a + 1) (by omega), if_pos (by omega), if_pos (by omega)]
  rw [show (((a + 1 : Nat) : Int)).toNat = a + 1 from rfl, show (((a + 1 + 1 : Nat) : Int)).toNat = a + 1 + 0 + 1 from rfl, hbg, decide_eq_true hst]
  simp only [Option.bind_some, payoffref03_number.j3, if_true]
  have hone : (s.extract (a + 1) (a + 1 + 1)).toList = [48] := by
    have hz := ext_size s (a + 1) (a + 1 + 1) (by omega)
    have hb := ext_byte s (a + 1) (a + 1 + 1) 0 (by omega) (by omega)
    rw [Nat.add_zero, h0] at hb
    rw [ByteArray.toList_eq]
    have hl : (s.extract (a + 1) (a + 1 + 1)).data.toList.length = 1 := by rw [Array.length_toList]; show (s.extract (a + 1) (a + 1 + 1)).size = 1; rw [hz]; omega
    obtain ⟨x, hx⟩ := List.length_eq_one_iff.1 hl
    rw [hx]
    unfold bt at hb
    have h1 : ((0 : Nat) : Int).toNat < (s.extract (a + 1) (a + 1 + 1)).size := by rw [hz]; omega
    rw [dif_pos h1] at hb
    have hg : (s.extract (a + 1) (a + 1 + 1)).data.toList[0]? = some x := by rw [hx]; rfl
    rw [Array.getElem?_toList] at hg
    obtain ⟨h3, h4⟩ := Array.getElem?_eq_some_iff.1 hg
    have h5 : (s.extract (a + 1) (a + 1 + 1))[((0 : Nat) : Int).toNat]'h1 = x := h4
    rw [h5] at hb
    have hx48 : x = 48 := by
      apply UInt8.toNat_inj.1
      show x.toNat = 48
      omega
    rw [hx48]
  rw [if_pos (by omega), if_pos (by omega), w64_nat (a + 1) (by omega), if_pos (by omega), if_pos (by omega), show (((a + 1 : Nat) : Int)).toNat = a + 1 from rfl, show (((a + 1 + 1 : Nat) : Int)).toNat = a + 1 + 1 from rfl, if_pos hone]
  simp

/-- The value of digits, with the sign or without. -/
theorem value_l0 (s : ByteArray) (L : Int) (hL : 9 ≤ L) (hsz : s.size ≤ 1048576) (a b m : Nat) (c : Nat) (hb : a = b + c) (hg : Good s L a m) (ham : a + m ≤ s.size) (neg : Bool) (hLn : if neg = true then L ≤ 9223372036854775808 else L ≤ 9223372036854775807) :
    ∀ (d j k : Nat), j + d = m → d < k → payoffref03_value.l0 k (s.extract b (a + m)) neg (if neg = true then - vv s a j else vv s a j) ((c + j : Nat) : Int) = some (if neg = true then - vv s a m else vv s a m) := by
  have hes : ((s.extract b (a + m)).size : Int) = ((c + m : Nat) : Int) := by rw [ext_size s b (a + m) (by omega)]; omega
  intro d
  induction d with
  | zero =>
    intro j k hj hk
    obtain rfl : j = m := by omega
    obtain ⟨k, rfl⟩ : ∃ q, k = q + 1 := ⟨k - 1, by omega⟩
    simp only [payoffref03_value.l0]
    rw [hes, if_neg (by omega)]
  | succ d ih =>
    intro j k hj hk
    obtain ⟨k, rfl⟩ : ∃ q, k = q + 1 := ⟨k - 1, by omega⟩
    obtain ⟨hin, h48, h57, hz, hle⟩ := hg j (by omega)
    have hv := vv_range hL (hg.le (show j ≤ m by omega))
    have hbt := ext_byte s b (a + m) (c + j) (by omega) (by omega)
    rw [show b + (c + j) = a + j by omega] at hbt
    have hih := ih (j + 1) k (by omega) (by omega)
    simp only [payoffref03_value.l0]
    rw [hes, if_pos (by omega), if_pos (by omega), hbt, if_neg (by omega), w64_nat (c + j) (by omega), show (by_ s (a + j) - 48) % 256 = by_ s (a + j) - 48 by omega]
    cases neg with
    | true =>
      simp only [if_true] at hLn hih ⊢
      have e : wrap64 (wrap64 (10 * -vv s a j) - (by_ s (a + j) - 48)) = - vv s a (j + 1) := by
        rw [show vv s a (j + 1) = 10 * vv s a j + (by_ s (a + j) - 48) from rfl]
        unfold wrap64; omega
      rw [e]; exact hih
    | false =>
      simp only [Bool.false_eq_true, if_false] at hLn hih ⊢
      have e : wrap64 (wrap64 (10 * vv s a j) + (by_ s (a + j) - 48)) = vv s a (j + 1) := by
        rw [show vv s a (j + 1) = 10 * vv s a j + (by_ s (a + j) - 48) from rfl]
        unfold wrap64; omega
      rw [e]; exact hih
theorem value_pos (s : ByteArray) (L : Int) (hL : 9 ≤ L) (hL2 : L ≤ 9223372036854775807) (hsz : s.size ≤ 1048576) (a m k : Nat) (hg : Good s L a m) (ham : a + m ≤ s.size) (hm : 0 < m) (hk : Enough s k) :
    payoffref03_value.f k (s.extract a (a + m)) = some (vv s a m) := by
  unfold Enough at hk
  have h := value_l0 s L hL hsz a a m 0 rfl hg ham false (by simpa using hL2) m 0 k (by omega) (by omega)
  have hb := ext_byte s a (a + m) 0 (by omega) (by omega)
  have hd := (hg 0 hm).2.1
  unfold payoffref03_value.f
  rw [if_pos (by rw [ext_size s a (a + m) ham]; omega), show bt (s.extract a (a + m)) 0 = by_ s (a + 0) from hb, beq_eq_false_iff_ne.2 (by omega)]
  simpa [vv] using h
theorem value_neg (s : ByteArray) (hsz : s.size ≤ 1048576) (b m k : Nat) (hmn : by_ s b = 45) (hg : Good s 9223372036854775808 (b + 1) m) (ham : b + 1 + m ≤ s.size) (hk : Enough s k) :
    payoffref03_value.f k (s.extract b (b + 1 + m)) = some (- vv s (b + 1) m) := by
  unfold Enough at hk
  obtain ⟨k, rfl⟩ : ∃ q, k = q + 1 := ⟨k - 1, by omega⟩
  have h := value_l0 s 9223372036854775808 (by omega) hsz (b + 1) b m 1 rfl hg ham true (by simp) m 0 k (by omega) (by omega)
  have hb := ext_byte s b (b + 1 + m) 0 (by omega) (by omega)
  rw [show b + 0 = b from rfl, hmn] at hb
  unfold payoffref03_value.f
  rw [if_pos (by rw [ext_size s b (b + 1 + m) ham]; omega), show bt (s.extract b (b + 1 + m)) 0 = 45 from hb]
  simp only [payoffref03_value.l0, beq_self_eq_true]
  rw [if_pos (by rw [ext_size s b (b + 1 + m) ham]; omega), if_pos (by omega), show bt (s.extract b (b + 1 + m)) 0 = 45 from hb, if_pos rfl, show wrap64 ((0 : Int) + 1) = ((1 : Nat) : Int) from w64_nat 0 (by omega)]
  simpa [vv] using h
end Go.Proofs.Ytdfndbegifdejaa.GParses
