/- The plain law of a flow's line: the program's reader and the document's take the same line, or stop at the same place. -/
import Derived.Test.YtdfndbegifdejaaNumS
namespace Go.Proofs.Ytdfndbegifdejaa.GParses
set_option linter.unusedVariables false
set_option linter.unusedSimpArgs false
open Go.RowKit Go.Proofs.YtdfndbegifdejaaW.PrintWords Go.Proofs.YtdfndbegifdejaaW.PrintLast Go.Proofs.YtdfndbegifdejaaW.PrintMore

theorem want_f (s : ByteArray) (p : Nat) (hp : p ≤ s.size) (hsz : s.size ≤ 1048576) (c : Int) :
    flow_reader_want.f s (p : Int) c = some (if p < s.size ∧ by_ s p = c then (true, s, ((p + 1 : Nat) : Int)) else (false, s, (p : Int))) := by
  unfold flow_reader_want.f
  by_cases hin : p < s.size
  · rw [next_in s p hin]
    simp only [Option.bind_some, if_true]
    by_cases hc : by_ s p = c
    · rw [if_pos hc, if_pos ⟨hin, hc⟩, w64_nat p (by omega)]
    · rw [if_neg hc, if_neg (fun h => hc h.2)]
  · obtain rfl : p = s.size := by omega
    rw [next_end, if_neg (fun h => hin h.1)]
    simp only [Option.bind_some, Bool.false_eq_true, if_false]

theorem numAns_cases (s : ByteArray) (a m : Nat) : (∃ v, numAns s a m = (v, false, s, ((a + m : Nat) : Int)) ∧ (0 < m → a + m < s.size ∧ 48 ≤ by_ s (a + m) ∧ by_ s (a + m) ≤ 57)) ∨ (0 < m ∧ numAns s a m = (vv s a m, true, s, ((a + m : Nat) : Int))) := by
  unfold numAns
  by_cases h : a + m < s.size ∧ 48 ≤ by_ s (a + m) ∧ by_ s (a + m) ≤ 57
  · rw [if_pos h]; exact .inl ⟨0, rfl, fun _ => h⟩
  · rw [if_neg h]
    by_cases hm : 0 < m
    · rw [decide_eq_true hm]; exact .inr ⟨hm, rfl⟩
    · rw [decide_eq_false hm]; exact .inl ⟨_, rfl, fun h => absurd h hm⟩

theorem day_same (s : ByteArray) (hsz : s.size ≤ 1048576) (a : Nat) (ha : a ≤ s.size) (k k' k'' : Nat) (hk : Enough s k) (hk' : Enough s k') (hk'' : Enough s k'') :
    ∃ (q : Nat) (v : Int) (okP okR : Bool), flow_reader_number.f k s (a : Int) 1073741824 = some (v, okP, s, (q : Int)) ∧ payoffref03_number.f k' s (a : Int) 1073741824 false = some ((q : Int), okR) ∧ a ≤ q ∧ q ≤ s.size ∧
      (okP = true → okR = true ∧ a < q ∧ payoffref03_value.f k'' (s.extract a q) = some v ∧ wrap64 v = v) ∧ (okP = false → okR = true → q < s.size ∧ 48 ≤ by_ s q) := by
  obtain ⟨m, hg, hs, ham⟩ := stop_exists s 1073741824 a ha
  have h1 := num_prog s 1073741824 (by omega) (by omega) hsz a m k hg hs ham hk
  have h2 := num_ref s 1073741824 (by omega) (by omega) hsz a m k' hg hs ham hk'
  have hv := vv_range (by omega) hg
  rcases numAns_cases s a m with ⟨v, he, hd⟩ | ⟨hm, he⟩
  · rw [he] at h1
    exact ⟨a + m, v, false, decide (0 < m), h1, h2, by omega, ham, (fun h => by cases h), fun _ h => by have := hd (of_decide_eq_true h); exact ⟨this.1, this.2.1⟩⟩
  · rw [he] at h1
    refine ⟨a + m, _, true, decide (0 < m), h1, h2, by omega, ham, fun _ => ⟨decide_eq_true hm, by omega, value_pos s 1073741824 (by omega) (by omega) hsz a m k'' hg ham hm hk'', by unfold wrap64; omega⟩, fun h => by cases h⟩

theorem neg_back (v : Int) (h0 : 0 ≤ v) (h1 : v ≤ 9223372036854775808) : wrap64 (IntKind.u64.wrap (-v)) = -v := by
  simp only [IntKind.wrap, IntKind.signed, IntKind.bits, wrap64]
  simp
  omega

theorem amt_same (s : ByteArray) (hsz : s.size ≤ 1048576) (a : Nat) (ha : a ≤ s.size) (k k' k'' : Nat) (hk : Enough s k) (hk' : Enough s k') (hk'' : Enough s k'') :
    ∃ (q : Nat) (v : Int) (okP okR : Bool), flow_reader_amount.f k s (a : Int) = some (v, okP, s, (q : Int)) ∧ payoffref03_number.f k' s (a : Int) 9223372036854775807 true = some ((q : Int), okR) ∧ a ≤ q ∧ q ≤ s.size ∧
      (okP = true → okR = true ∧ a < q ∧ payoffref03_value.f k'' (s.extract a q) = some v) ∧ (okP = false → okR = true → q < s.size ∧ 48 ≤ by_ s q) := by
  unfold flow_reader_amount.f
  rw [want_f s a ha hsz]
  by_cases hneg : a < s.size ∧ by_ s a = 45
  · rw [if_pos hneg]
    simp only [Option.bind_some, if_true]
    obtain ⟨hin, hm45⟩ := hneg
    by_cases h0 : a + 1 < s.size ∧ by_ s (a + 1) = 48
    · rw [next_in s (a + 1) h0.1]
      simp only [Option.bind_some, if_true, h0.2]
      exact ⟨a + 1, 0, false, false, rfl, num_ref_minus0 s hsz a k' h0.1 hm45 h0.2 hk', by omega, by omega, fun h => (by cases h), fun _ h => (by cases h)⟩
    · obtain ⟨m, hg, hs, ham⟩ := stop_exists s 9223372036854775808 (a + 1) (by omega)
      have h1 := num_prog s 9223372036854775808 (by omega) (by omega) hsz (a + 1) m k hg hs ham hk
      have h2 := num_ref_minus s hsz a m k' hin hm45 hg hs ham hk' (fun h e => h0 ⟨h, e⟩)
      have hv := vv_range (by omega) hg
      have hnx : ∀ f g : Option (Int × Bool × ByteArray × Int), ((flow_reader_next.f s ((a + 1 : Nat) : Int)).bind fun bt => (if bt.2.1 = true then (if bt.1 = 48 then f else g) else g)) = g := by
        intro f g
        by_cases hin1 : a + 1 < s.size
        · rw [next_in s (a + 1) hin1]
          simp only [Option.bind_some, if_true]
          rw [if_neg (fun e => h0 ⟨hin1, e⟩)]
        · have he : a + 1 = s.size := by omega
          rw [he, next_end]
          simp only [Option.bind_some, Bool.false_eq_true, if_false]
      rcases numAns_cases s (a + 1) m with ⟨v, he, hd⟩ | ⟨hm, he⟩
      · rw [he] at h1
        refine ⟨a + 1 + m, wrap64 (IntKind.u64.wrap (-v)), false, decide (0 < m), ?_, h2, by omega, ham, fun h => (by cases h), fun _ h => by have := hd (of_decide_eq_true h); exact ⟨this.1, this.2.1⟩⟩
        by_cases hin1 : a + 1 < s.size
        · rw [next_in s (a + 1) hin1]
          simp only [Option.bind_some, if_true]
          rw [if_neg (fun e => h0 ⟨hin1, e⟩), h1]; rfl
        · have he1 : a + 1 = s.size := by omega
          rw [he1, next_end]
          simp only [Option.bind_some, Bool.false_eq_true, if_false]
          rw [← he1, h1]; rfl
      · rw [he] at h1
        refine ⟨a + 1 + m, - vv s (a + 1) m, true, decide (0 < m), ?_, h2, by omega, ham, fun _ => ⟨decide_eq_true hm, by omega, value_neg s hsz a m k'' hm45 hg ham hk''⟩, fun h => (by cases h)⟩
        by_cases hin1 : a + 1 < s.size
        · rw [next_in s (a + 1) hin1]
          simp only [Option.bind_some, if_true]
          rw [if_neg (fun e => h0 ⟨hin1, e⟩), h1]
          simp only [Option.bind_some, neg_back _ hv.1 hv.2]
        · have he1 : a + 1 = s.size := by omega
          rw [he1, next_end]
          simp only [Option.bind_some, Bool.false_eq_true, if_false]
          rw [← he1, h1]
          simp only [Option.bind_some, neg_back _ hv.1 hv.2]
  · rw [if_neg hneg]
    simp only [Option.bind_some, Bool.false_eq_true, if_false]
    obtain ⟨m, hg, hs, ham⟩ := stop_exists s 9223372036854775807 a ha
    have h1 := num_prog s 9223372036854775807 (by omega) (by omega) hsz a m k hg hs ham hk
    have h2 := num_ref_plain s 9223372036854775807 (by omega) (by omega) hsz a m k' hg hs ham hk' (fun h e => hneg ⟨h, e⟩)
    have hv := vv_range (by omega) hg
    rcases numAns_cases s a m with ⟨v, he, hd⟩ | ⟨hm, he⟩
    · rw [he] at h1
      exact ⟨a + m, wrap64 v, false, decide (0 < m), by rw [h1]; rfl, h2, by omega, ham, fun h => (by cases h), fun _ h => by have := hd (of_decide_eq_true h); exact ⟨this.1, this.2.1⟩⟩
    · rw [he] at h1
      exact ⟨a + m, vv s a m, true, decide (0 < m), by rw [h1]; simp only [Option.bind_some]; rw [show wrap64 (vv s a m) = vv s a m by unfold wrap64; omega], h2, by omega, ham, fun _ => ⟨decide_eq_true hm, by omega, value_pos s 9223372036854775807 (by omega) (by omega) hsz a m k'' hg ham hm hk''⟩, fun h => (by cases h)⟩

/-- What two readers of a line say alike. -/
def Alike (s : ByteArray) (p : Nat) (P : Option (Int × ByteArray × Int × Bool × ByteArray × Int)) (R : Option (Int × ByteArray × Int × Int × Bool)) : Prop :=
  ∃ (ok : Bool) (q : Nat) (d d' v v' : Int) (c c' : ByteArray), P = some (d, c, v, ok, s, (q : Int)) ∧ R = some (d', c', v', (q : Int), ok) ∧ q ≤ s.size ∧ (ok = true → p < q ∧ d = d' ∧ c = c' ∧ v = v')

theorem tail_end (s : ByteArray) (hsz : s.size ≤ 1048576) (f : Nat) (hf : f + 3 ≤ s.size) (day : Int) (hday : wrap64 day = day) (c0 : ByteArray) (v0 : Int) (k k' : Nat) (hk : 8 * s.size + 50 < k) (hk' : 8 * s.size + 50 < k') :
    Alike s f (flow_reader_line.l0 k day (f : Int) 3 s ((f + 3 : Nat) : Int)) (payoffref03_line.l0 k' s (f : Int) 3 day c0 v0) := by
  obtain ⟨k, rfl⟩ : ∃ q, k = q + 1 := ⟨k - 1, by omega⟩
  obtain ⟨k', rfl⟩ : ∃ q, k' = q + 2 := ⟨k' - 2, by omega⟩
  have w3 : wrap64 ((f : Int) + 3) = ((f + 3 : Nat) : Int) := by unfold wrap64; omega
  have w4 : wrap64 ((f : Int) + 4) = ((f + 3 + 1 : Nat) : Int) := by unfold wrap64; omega
  simp only [flow_reader_line.l0, payoffref03_line.l0]
  rw [if_neg (by omega), if_pos (by omega), if_pos (by omega), if_pos (by omega), if_neg (by omega), if_pos (by omega), w3, if_pos (by omega), if_pos (by omega)]
  by_cases hin : f + 3 < s.size
  · rw [if_neg (by omega), if_pos (by omega), if_pos (by omega), show bt s ((f + 3 : Nat) : Int) = by_ s (f + 3) from rfl]
    by_cases h32 : by_ s (f + 3) = 32
    · rw [want_f s (f + 3) hf hsz, if_pos ⟨hin, h32⟩, h32]
      simp only [Option.bind_some, if_true, payoffref03_line.j2, bne_self_eq_false, Bool.false_eq_true, if_false, w4]
      obtain ⟨q, v, okP, okR, h1, h2, haq, hqs, hyes, hno⟩ := amt_same s hsz (f + 3 + 1) (by omega) k k' k' (by unfold Enough; omega) (by unfold Enough; omega) (by unfold Enough; omega)
      rw [h1, h2]
      simp only [Option.bind_some]
      cases okP with
      | true =>
        obtain ⟨rfl, hlt, hval⟩ := hyes rfl
        simp only [if_true]
        by_cases hq : q < s.size
        · rw [if_neg (show ¬ (q : Int) ≥ (s.size : Int) by omega), if_pos (by omega), if_pos (by omega), show bt s (q : Int) = by_ s q from rfl]
          by_cases h10 : by_ s q = 10
          · rw [if_pos h10, if_pos (by omega), if_pos (by omega), if_pos (by omega), want_f s q hqs hsz, if_pos ⟨hq, h10⟩]
            rw [show (((f + 3 + 1 : Nat) : Int)).toNat = f + 3 + 1 from rfl, show ((q : Int)).toNat = q from rfl, hval]
            simp only [Option.bind_some, if_true]
            exact ⟨true, q + 1, _, _, _, _, _, _, rfl, by rw [w64_nat q (by omega)], by omega, fun _ => ⟨by omega, hday, rfl, rfl⟩⟩
          · rw [if_neg h10, want_f s q hqs hsz, if_neg (fun h => h10 h.2)]
            simp only [Option.bind_some, Bool.false_eq_true, if_false]
            exact ⟨false, q, _, _, _, _, _, _, rfl, rfl, hqs, fun h => by cases h⟩
        · rw [if_pos (show (q : Int) ≥ (s.size : Int) by omega), want_f s q hqs hsz, if_neg (fun h => hq h.1)]
          simp only [Option.bind_some, Bool.false_eq_true, if_false]
          exact ⟨false, q, _, _, _, _, _, _, rfl, rfl, hqs, fun h => by cases h⟩
      | false =>
        simp only [Bool.false_eq_true, if_false]
        cases okR with
        | true =>
          obtain ⟨hq, hd⟩ := hno rfl rfl
          simp only [if_true]
          rw [if_neg (show ¬ (q : Int) ≥ (s.size : Int) by omega), if_pos (by omega), if_pos (by omega), show bt s (q : Int) = by_ s q from rfl, if_neg (by omega)]
          exact ⟨false, q, _, _, _, _, _, _, rfl, rfl, hqs, fun h => by cases h⟩
        | false =>
          simp only [Bool.false_eq_true, if_false]
          exact ⟨false, q, _, _, _, _, _, _, rfl, rfl, hqs, fun h => by cases h⟩
    · rw [want_f s (f + 3) hf hsz, if_neg (fun h => h32 h.2), bne_iff_ne.2 h32]
      simp only [Option.bind_some, Bool.false_eq_true, if_false, payoffref03_line.j2, if_true, w3]
      exact ⟨false, f + 3, _, _, _, _, _, _, rfl, rfl, hf, fun h => by cases h⟩
  · rw [if_pos (by omega), want_f s (f + 3) hf hsz, if_neg (fun h => hin h.1)]
    simp only [Option.bind_some, Bool.false_eq_true, if_false, payoffref03_line.j2, if_true, w3]
    exact ⟨false, f + 3, _, _, _, _, _, _, rfl, rfl, hf, fun h => by cases h⟩

theorem tail_l0 (s : ByteArray) (hsz : s.size ≤ 1048576) (f : Nat) (day : Int) (hday : wrap64 day = day) (c0 : ByteArray) (v0 : Int) :
    ∀ (d i k k' : Nat), i + d = 3 → f + i ≤ s.size → 8 * s.size + 50 + d < k → 8 * s.size + 50 + d < k' → Alike s f (flow_reader_line.l0 k day (f : Int) (i : Int) s ((f + i : Nat) : Int)) (payoffref03_line.l0 k' s (f : Int) (i : Int) day c0 v0) := by
  intro d
  induction d with
  | zero =>
    intro i k k' hi hf hk hk'
    obtain rfl : i = 3 := by omega
    exact tail_end s hsz f hf day hday c0 v0 k k' (by omega) (by omega)
  | succ d ih =>
    intro i k k' hi hf hk hk'
    obtain ⟨k, rfl⟩ : ∃ q, k = q + 1 := ⟨k - 1, by omega⟩
    obtain ⟨k', rfl⟩ : ∃ q, k' = q + 1 := ⟨k' - 1, by omega⟩
    have wi : wrap64 ((f : Int) + (i : Int)) = ((f + i : Nat) : Int) := by unfold wrap64; omega
    simp only [flow_reader_line.l0, payoffref03_line.l0]
    rw [if_pos (by omega), if_pos (by omega), wi]
    by_cases hin : f + i < s.size
    · rw [next_in s (f + i) hin, if_neg (by omega), if_pos (by omega), if_pos (by omega), show bt s ((f + i : Nat) : Int) = by_ s (f + i) from rfl]
      simp only [Option.bind_some, if_true]
      by_cases h65 : by_ s (f + i) < 65
      · rw [if_pos h65, if_pos h65]
        exact ⟨false, f + i, _, _, _, _, _, _, rfl, rfl, hf, fun h => by cases h⟩
      · rw [if_neg h65, if_neg h65]
        by_cases h90 : by_ s (f + i) > 90
        · rw [if_pos h90, if_pos h90]
          exact ⟨false, f + i, _, _, _, _, _, _, rfl, rfl, hf, fun h => by cases h⟩
        · rw [if_neg h90, if_neg h90, w64_nat i (by omega), w64_nat (f + i) (by omega)]
          exact ih (i + 1) k k' (by omega) (by omega) (by omega) (by omega)
    · obtain he : f + i = s.size := by omega
      rw [if_pos (by omega), he, next_end]
      simp only [Option.bind_some, Bool.false_eq_true, if_false]
      exact ⟨false, s.size, _, _, _, _, _, _, rfl, rfl, by omega, fun h => by cases h⟩

theorem line_same (s : ByteArray) (hsz : s.size ≤ 1048576) (p : Nat) (hp : p ≤ s.size) (k k' : Nat) (hk : 8 * s.size + 60 < k) (hk' : 8 * s.size + 60 < k') :
    Alike s p (flow_reader_line.f k s (p : Int)) (payoffref03_line.f k' s (p : Int)) := by
  obtain ⟨q, v, okP, okR, h1, h2, hpq, hqs, hyes, hno⟩ := day_same s hsz p hp k k' (k' - 1) (by unfold Enough; omega) (by unfold Enough; omega) (by unfold Enough; omega)
  unfold flow_reader_line.f payoffref03_line.f
  rw [h1, h2]
  obtain ⟨k, rfl⟩ : ∃ q, k = q + 1 := ⟨k - 1, by omega⟩
  obtain ⟨k', rfl⟩ : ∃ q, k' = q + 1 := ⟨k' - 1, by omega⟩
  rw [Nat.add_sub_cancel] at hyes
  simp only [Option.bind_some]
  cases okP with
  | true =>
    obtain ⟨rfl, hlt, hval, hw⟩ := hyes rfl
    simp only [if_true]
    by_cases hq : q < s.size
    · rw [if_neg (show ¬ (q : Int) ≥ (s.size : Int) by omega), if_pos (by omega), if_pos (by omega), show bt s (q : Int) = by_ s q from rfl]
      by_cases h32 : by_ s q = 32
      · rw [want_f s q hqs hsz, if_pos ⟨hq, h32⟩, h32]
        simp only [Option.bind_some, Bool.not_true, flow_reader_line.j0, payoffref03_line.j0, bne_self_eq_false, Bool.false_eq_true, if_false]
        rw [if_pos (by omega), if_pos (by omega), if_pos (by omega), show ((p : Int)).toNat = p from rfl, show ((q : Int)).toNat = q from rfl, hval]
        simp only [Option.bind_some]
        rw [w64_nat q (by omega)]
        obtain ⟨ok, z, d, d', x, x', c, c', e1, e2, hz, hy⟩ := tail_l0 s hsz (q + 1) v hw (⟨#[]⟩ : ByteArray) 0 3 0 k k' (by omega) (by omega) (by omega) (by omega)
        exact ⟨ok, z, d, d', x, x', c, c', e1, e2, hz, fun h => by have := hy h; exact ⟨by omega, this.2⟩⟩
      · rw [want_f s q hqs hsz, if_neg (fun h => h32 h.2), bne_iff_ne.2 h32]
        simp only [Option.bind_some, Bool.not_false, flow_reader_line.j0, payoffref03_line.j0, if_true]
        exact ⟨false, q, _, _, _, _, _, _, rfl, rfl, hqs, fun h => by cases h⟩
    · rw [if_pos (show (q : Int) ≥ (s.size : Int) by omega), want_f s q hqs hsz, if_neg (fun h => hq h.1)]
      simp only [Option.bind_some, Bool.not_false, flow_reader_line.j0, payoffref03_line.j0, if_true]
      exact ⟨false, q, _, _, _, _, _, _, rfl, rfl, hqs, fun h => by cases h⟩
  | false =>
    simp only [Bool.false_eq_true, if_false, flow_reader_line.j0, if_true]
    cases okR with
    | true =>
      obtain ⟨hq, hd⟩ := hno rfl rfl
      simp only [if_true]
      rw [if_neg (show ¬ (q : Int) ≥ (s.size : Int) by omega), if_pos (by omega), if_pos (by omega), show bt s (q : Int) = by_ s q from rfl, bne_iff_ne.2 (show by_ s q ≠ 32 by omega)]
      simp only [payoffref03_line.j0, if_true]
      exact ⟨false, q, _, _, _, _, _, _, rfl, rfl, hqs, fun h => by cases h⟩
    | false =>
      simp only [Bool.false_eq_true, if_false, payoffref03_line.j0, if_true]
      exact ⟨false, q, _, _, _, _, _, _, rfl, rfl, hqs, fun h => by cases h⟩
end Go.Proofs.Ytdfndbegifdejaa.GParses
