/- A line of a flow as a small automaton over bytes: what it reaches, that it is determined, that it looks at no byte behind the one at which it stops; and that a printed line is taken. -/
import Derived.Test.YtdfndbegifdejaaDoorNumP
import Derived.Test.YtdfndbegifdejaaDoorPrt
namespace Go.Proofs.YtdfndbegifdejaaDoor.GD
set_option linter.unusedVariables false
set_option linter.unusedSimpArgs false
open Go.RowKit Go.Proofs.YtdfndbegifdejaaDoorW.PrintWords

inductive St where
  | day (v : Int) (n : Nat)
  | cur (d : Int) (i : Nat)
  | am (d : Int)
  | ng (d : Int)
  | pos (d v : Int) (n : Nat)
  | neg (d v : Int) (n : Nat)
  | fin (d a : Int)
def dig (L v : Int) (n : Nat) (c : Int) : Option Int := if 48 ≤ c ∧ c ≤ 57 ∧ ¬ (0 < n ∧ v = 0) ∧ v ≤ (L - (c - 48)) / 10 then some (10 * v + (c - 48)) else none
def L1 : Int := 1073741824
def L2 : Int := 9223372036854775807
def L3 : Int := 9223372036854775808
def stp : St → Int → Option St
  | .day v n, c => if 0 < n ∧ c = 32 then some (.cur v 0) else (dig L1 v n c).map (fun u => .day u (n + 1))
  | .cur d i, c => if i < 3 then (if 65 ≤ c ∧ c ≤ 90 then some (.cur d (i + 1)) else none) else (if c = 32 then some (.am d) else none)
  | .am d, c => if c = 45 then some (.ng d) else (dig L2 0 0 c).map (fun u => .pos d u 1)
  | .ng d, c => if c = 48 then none else (dig L3 0 0 c).map (fun u => .neg d u 1)
  | .pos d v n, c => if c = 10 then some (.fin d v) else (dig L2 v n c).map (fun u => .pos d u (n + 1))
  | .neg d v n, c => if c = 10 then some (.fin d (-v)) else (dig L3 v n c).map (fun u => .neg d u (n + 1))
  | .fin _ _, _ => none
inductive Reach (s : ByteArray) : St → Nat → St → Nat → Prop
  | refl (st : St) (p : Nat) : Reach s st p st p
  | step {st st1 st' : St} {p q : Nat} (hp : p < s.size) (h : stp st (by_ s p) = some st1) (r : Reach s st1 (p + 1) st' q) : Reach s st p st' q
def Stuck (s : ByteArray) (st : St) (q : Nat) : Prop := q < s.size → stp st (by_ s q) = none
theorem Reach.trans {s : ByteArray} {a b c : St} {p q r : Nat} (h : Reach s a p b q) (g : Reach s b q c r) : Reach s a p c r := by
  induction h with
  | refl => exact g
  | step hp h _ ih => exact .step hp h (ih g)
theorem Reach.le {s : ByteArray} {a b : St} {p q : Nat} (h : Reach s a p b q) : p ≤ q := by
  induction h with
  | refl => exact Nat.le_refl _
  | step hp h _ ih => omega
theorem Reach.size {s : ByteArray} {a b : St} {p q : Nat} (h : Reach s a p b q) (hp : p ≤ s.size) : q ≤ s.size := by
  induction h with
  | refl => exact hp
  | step hp h _ ih => exact ih (by omega)
theorem Reach.one {s : ByteArray} {a b : St} {p : Nat} (hp : p < s.size) (h : stp a (by_ s p) = some b) : Reach s a p b (p + 1) := .step hp h (.refl _ _)
theorem Reach.det {s : ByteArray} {a b c : St} {p q r : Nat} (h : Reach s a p b q) (hb : Stuck s b q) (g : Reach s a p c r) (hc : Stuck s c r) : b = c ∧ q = r := by
  induction h with
  | refl st p =>
    cases g with
    | refl => exact ⟨rfl, rfl⟩
    | step hp h _ => have := hb hp; rw [this] at h; cases h
  | step hp h _ ih =>
    cases g with
    | refl => have := hc hp; rw [this] at h; cases h
    | step hp2 h2 r2 =>
      rw [h] at h2
      cases h2
      exact ih hb r2
theorem Reach.local {s t : ByteArray} {a b : St} {p q : Nat} (h : Reach s a p b q) (hq : q ≤ t.size) (ha : ∀ j, p ≤ j → j < q → by_ t j = by_ s j) : Reach t a p b q := by
  induction h with
  | refl => exact .refl _ _
  | step hp h r ih =>
    have := r.le
    refine .step (by omega) ?_ (ih hq (fun j h1 h2 => ha j (by omega) h2))
    rw [ha _ (Nat.le_refl _) (by omega)]; exact h
theorem dig_step {s : ByteArray} {L : Int} {a j : Nat} (h : Step s L a j) : dig L (vv s a j) j (by_ s (a + j)) = some (vv s a (j + 1)) := by
  obtain ⟨_, h1, h2, h3, h4⟩ := h
  unfold dig
  rw [if_pos ⟨h1, h2, h3, h4⟩]
  rfl
theorem dig_none {s : ByteArray} {L : Int} {a j : Nat} (hin : a + j < s.size) (h : ¬ Step s L a j) : dig L (vv s a j) j (by_ s (a + j)) = none := by
  unfold dig
  rw [if_neg]
  rintro ⟨h1, h2, h3, h4⟩
  exact h ⟨hin, h1, h2, h3, h4⟩
theorem reach_day {s : ByteArray} {a : Nat} : ∀ m, Good s L1 a m → Reach s (.day 0 0) a (.day (vv s a m) m) (a + m)
  | 0, _ => .refl _ _
  | m + 1, h => by
    have hs := h m (by omega)
    refine (reach_day m (h.le (by omega))).trans (Reach.one hs.1 ?_)
    simp only [stp]
    rw [if_neg (by have := hs.2.1; omega), dig_step hs]
    rfl
theorem reach_pos {s : ByteArray} {d : Int} {a : Nat} : ∀ m, Good s L2 a (m + 1) → Reach s (.am d) a (.pos d (vv s a (m + 1)) (m + 1)) (a + (m + 1))
  | 0, h => by
    have hs := h 0 (by omega)
    refine Reach.one hs.1 ?_
    simp only [stp]
    have h1 := hs.2.1
    rw [if_neg (by simp only [Nat.add_zero] at h1; omega)]
    have := dig_step hs
    simp only [Nat.add_zero] at this
    rw [show (vv s a 0) = 0 from rfl] at this
    rw [this]; rfl
  | m + 1, h => by
    have hs := h (m + 1) (by omega)
    refine (reach_pos m (h.le (by omega))).trans (Reach.one hs.1 ?_)
    simp only [stp]
    rw [if_neg (by have := hs.2.1; omega), dig_step hs]
    rfl
theorem reach_neg {s : ByteArray} {d : Int} {a : Nat} (h0 : by_ s a ≠ 48) : ∀ m, Good s L3 a (m + 1) → Reach s (.ng d) a (.neg d (vv s a (m + 1)) (m + 1)) (a + (m + 1))
  | 0, h => by
    have hs := h 0 (by omega)
    refine Reach.one hs.1 ?_
    simp only [stp]
    rw [if_neg h0]
    have := dig_step hs
    simp only [Nat.add_zero] at this
    rw [show (vv s a 0) = 0 from rfl] at this
    rw [this]; rfl
  | m + 1, h => by
    have hs := h (m + 1) (by omega)
    refine (reach_neg h0 m (h.le (by omega))).trans (Reach.one hs.1 ?_)
    simp only [stp]
    rw [if_neg (by have := hs.2.1; omega), dig_step hs]
    rfl
/-- The bytes from p to q. -/
def seg (s : ByteArray) (p q : Nat) : List UInt8 := (s.data.toList.drop p).take (q - p)
theorem seg_self (s : ByteArray) (p : Nat) : seg s p p = [] := by simp [seg]
theorem seg_append (s : ByteArray) {p q r : Nat} (h1 : p ≤ q) (h2 : q ≤ r) : seg s p q ++ seg s q r = seg s p r := by
  unfold seg
  rw [show r - p = (q - p) + (r - q) by omega, List.take_add, List.drop_drop, show p + (q - p) = q by omega]
theorem size_list (s : ByteArray) : s.data.toList.length = s.size := rfl
theorem by_get (s : ByteArray) (p : Nat) (h : p < s.size) : by_ s p = ((s.data.toList[p]'h).toNat : Int) := by
  unfold by_ bt
  rw [dif_pos (by simpa using h)]
  rfl
theorem seg_one (s : ByteArray) {p : Nat} (h : p < s.size) : seg s p (p + 1) = [s.data.toList[p]'h] := by
  unfold seg
  rw [show p + 1 - p = 1 by omega, List.drop_eq_getElem_cons (i := p) (by simpa using h)]
  rfl
theorem byte_eq {b : UInt8} {n : Nat} (h : (b.toNat : Int) = n) (hn : n < 256) : b = UInt8.ofNat n := by
  have : b.toNat = n := by omega
  rw [← this]; simp
theorem seg_byte (s : ByteArray) {p n : Nat} (h : p < s.size) (hb : by_ s p = (n : Int)) (hn : n < 256) : seg s p (p + 1) = [UInt8.ofNat n] := by
  rw [seg_one s h]; exact congrArg (fun b => [b]) (byte_eq (by rw [← by_get s p h]; exact hb) hn)
theorem decDigits_step (u : Nat) (h : 10 ≤ u) : Lib.decDigits u = Lib.decDigits (u / 10) ++ [UInt8.ofNat (48 + u % 10)] := by
  rw [Lib.decDigits, dif_neg (by omega)]
theorem digits_sound {s : ByteArray} {L : Int} (hL : 9 ≤ L) {a : Nat} : ∀ m, Good s L a (m + 1) → seg s a (a + (m + 1)) = Lib.decDigits (vv s a (m + 1)).toNat
  | 0, h => by
    have hs := h 0 (by omega)
    have h1 := hs.2.1; have h2 := hs.2.2.1; have h0 := hs.1
    simp only [Nat.add_zero] at h1 h2 h0
    have hv : vv s a (0 + 1) = by_ s a - 48 := by simp [vv]
    rw [hv, Lib.decDigits_one (by omega)]
    rw [show a + (0 + 1) = a + 1 by omega, seg_byte s (n := 48 + (by_ s a - 48).toNat) h0 (by omega) (by omega)]
  | m + 1, h => by
    have hs := h (m + 1) (by omega)
    have ih := digits_sound hL m (h.le (by omega))
    have hv := vv_range hL (h.le (show m + 1 ≤ m + 1 + 1 by omega))
    have hne : vv s a (m + 1) ≠ 0 := fun e => hs.2.2.2.1 ⟨by omega, e⟩
    have hval : vv s a (m + 1 + 1) = 10 * vv s a (m + 1) + (by_ s (a + (m + 1)) - 48) := rfl
    have h1 := hs.2.1; have h2 := hs.2.2.1
    rw [← seg_append s (show a ≤ a + (m + 1) by omega) (show a + (m + 1) ≤ a + (m + 1 + 1) by omega), ih, decDigits_step (vv s a (m + 1 + 1)).toNat (by rw [hval]; omega)]
    congr 1
    · congr 1; rw [hval]; omega
    · rw [show a + (m + 1 + 1) = a + (m + 1) + 1 by omega, seg_byte s (n := 48 + (by_ s (a + (m + 1)) - 48).toNat) hs.1 (by omega) (by omega)]
      congr 2; rw [hval]; omega
/-! ### A printed line is taken -/
def runL : St → List UInt8 → Option St
  | st, [] => some st
  | st, b :: r => (stp st (b.toNat : Int)).bind fun st1 => runL st1 r
theorem runL_append (st : St) (a b : List UInt8) : runL st (a ++ b) = (runL st a).bind fun st1 => runL st1 b := by
  induction a generalizing st with
  | nil => rfl
  | cons x r ih =>
    simp only [List.cons_append, runL]
    cases h : stp st (x.toNat : Int) with
    | none => rfl
    | some st1 => simp only [Option.bind_some]; exact ih st1
theorem reach_run {s : ByteArray} : ∀ (l : List UInt8) (st st' : St) (p : Nat), runL st l = some st' → (∃ r, s.data.toList.drop p = l ++ r) → Reach s st p st' (p + l.length)
  | [], st, st', p, h, _ => by cases h; exact .refl _ _
  | b :: l, st, st', p, h, ⟨r, hr⟩ => by
    simp only [runL] at h
    obtain ⟨st1, h1, h2⟩ := Option.bind_eq_some_iff.1 h
    have hp : p < s.size := by
      have := congrArg List.length hr
      simp only [List.length_drop, List.length_append, List.length_cons, size_list] at this; omega
    have hb : s.data.toList[p]'hp = b ∧ s.data.toList.drop (p + 1) = l ++ r := by
      rw [List.drop_eq_getElem_cons (i := p) (by simpa using hp)] at hr
      injection hr with e1 e2
      exact ⟨e1, e2⟩
    refine .step hp (by rw [by_get s p hp, hb.1]; exact h1) ?_
    have := reach_run (s := s) l st1 st' (p + 1) h2 ⟨r, hb.2⟩
    rw [List.length_cons, show p + (l.length + 1) = p + 1 + l.length by omega]
    exact this
theorem digit_byte (d : Nat) (h : d < 10) : ((UInt8.ofNat (48 + d)).toNat : Int) = 48 + (d : Int) := by
  have : (UInt8.ofNat (48 + d)).toNat = 48 + d := by simp; omega
  rw [this]; omega
theorem run_digits (lo : Int) (f : Int → Nat → St) (L : Int) (st0 : St) (h0 : ∀ c : Int, lo ≤ c → c ≤ 57 → stp st0 c = (dig L 0 0 c).map (fun u => f u 1)) (hf : ∀ (v : Int) (n : Nat) (c : Int), 1 ≤ n → 48 ≤ c → c ≤ 57 → stp (f v n) c = (dig L v n c).map (fun u => f u (n + 1))) :
    ∀ (u : Nat), (u : Int) ≤ L → (lo ≤ 48 ∨ (lo ≤ 49 ∧ 1 ≤ u)) → ∃ n, 1 ≤ n ∧ runL st0 (Lib.decDigits u) = some (f u n) := by
  intro u
  induction u using Nat.strongRecOn with
  | _ u ih =>
    intro hu hlo
    by_cases h : u < 10
    · refine ⟨1, Nat.le_refl _, ?_⟩
      rw [Lib.decDigits_one h]
      simp only [runL]
      rw [digit_byte u h, h0 _ (by rcases hlo with h1 | h1 <;> omega) (by omega)]
      unfold dig
      rw [if_pos ⟨by omega, by omega, by omega, by omega⟩]
      simp only [Option.map_some, Option.bind_some]
      congr 2; omega
    · obtain ⟨n, hn, hr⟩ := ih (u / 10) (by omega) (by omega) (by rcases hlo with h1 | h1 <;> omega)
      refine ⟨n + 1, by omega, ?_⟩
      rw [decDigits_step u (by omega), runL_append, hr]
      simp only [Option.bind_some, runL]
      rw [digit_byte (u % 10) (by omega), hf _ _ _ hn (by omega) (by omega)]
      unfold dig
      rw [if_pos ⟨by omega, by omega, by omega, by omega⟩]
      simp only [Option.map_some, Option.bind_some]
      congr 2; omega
/-- A flow that can be printed. -/
structure Fine (x : S32) : Prop where
  ok : vld x = 0
  day : InI x.f0
  amt : InI x.f2
theorem Fine.parts {x : S32} (h : Fine x) : 0 ≤ x.f0 ∧ x.f0 ≤ 1073741824 ∧ x.f1.size = 3 ∧ (65 ≤ bt x.f1 0 ∧ bt x.f1 0 ≤ 90) ∧ (65 ≤ bt x.f1 1 ∧ bt x.f1 1 ≤ 90) ∧ 65 ≤ bt x.f1 2 ∧ bt x.f1 2 ≤ 90 := by
  have hv := h.ok
  unfold vld at hv
  by_cases hc : cap3 x.f1 = true
  · rw [if_pos hc] at hv
    unfold cap3 at hc
    simp only [Bool.and_eq_true, decide_eq_true_eq] at hc
    by_cases h0 : x.f0 < 0
    · rw [if_pos h0] at hv; omega
    · rw [if_neg h0] at hv
      by_cases h1 : x.f0 > 1073741824
      · rw [if_pos h1] at hv; omega
      · exact ⟨by omega, by omega, hc.1.1.1.1.1.1, ⟨hc.1.1.1.1.1.2, hc.1.1.1.1.2⟩, ⟨hc.1.1.1.2, hc.1.1.2⟩, hc.1.2, hc.2⟩
  · rw [if_neg hc] at hv; omega
theorem three_bytes (c : ByteArray) (h : c.size = 3) : ∃ a b d : UInt8, c.data.toList = [a, b, d] ∧ bt c 0 = a.toNat ∧ bt c 1 = b.toNat ∧ bt c 2 = d.toNat := by
  obtain ⟨⟨l⟩⟩ := c
  match l, h with
  | [a, b, d], _ => exact ⟨a, b, d, rfl, rfl, rfl, rfl⟩
theorem run_line (x : S32) (h : Fine x) : runL (.day 0 0) (lineL x) = some (.fin x.f0 x.f2) := by
  obtain ⟨d0, d1, h3, c0, c1, c2⟩ := h.parts
  obtain ⟨a, b, d, hc, e0, e1, e2⟩ := three_bytes x.f1 h3
  rw [e0] at c0; rw [e1] at c1; rw [e2] at c2
  obtain ⟨n, hn, hday⟩ := run_digits 48 .day L1 (.day 0 0) (fun c h1 h2 => by simp only [stp]; rw [if_neg (by omega)]) (fun v n c _ h1 h2 => by simp only [stp]; rw [if_neg (by omega)]) x.f0.toNat (by unfold L1; omega) (.inl (by omega))
  have hid : Lib.itoa x.f0 = Lib.decDigits x.f0.toNat := by unfold Lib.itoa; rw [if_neg (by omega)]
  have hamt : runL (.am x.f0) (Lib.itoa x.f2 ++ [10]) = some (.fin x.f0 x.f2) := by
    have hlo := h.amt.lo; have hhi := h.amt.hi
    unfold Lib.itoa
    by_cases hneg : x.f2 < 0
    · rw [if_pos hneg, List.cons_append]
      simp only [runL]
      have hs : stp (.am x.f0) ((45 : UInt8).toNat : Int) = some (.ng x.f0) := by simp [stp]
      rw [hs]
      simp only [Option.bind_some]
      rw [runL_append]
      obtain ⟨n, hn, hr⟩ := run_digits 49 (.neg x.f0) L3 (.ng x.f0) (fun c h1 h2 => by simp only [stp]; rw [if_neg (by omega)]) (fun v n c _ h1 h2 => by simp only [stp]; rw [if_neg (by omega)]) x.f2.natAbs (by unfold L3; omega) (.inr ⟨by omega, by omega⟩)
      rw [hr]
      have e : -((x.f2.natAbs : Nat) : Int) = x.f2 := by omega
      simp [runL, stp, e]
    · rw [if_neg hneg, runL_append]
      obtain ⟨n, hn, hr⟩ := run_digits 48 (.pos x.f0) L2 (.am x.f0) (fun c h1 h2 => by simp only [stp]; rw [if_neg (by omega)]) (fun v n c _ h1 h2 => by simp only [stp]; rw [if_neg (by omega)]) x.f2.toNat (by unfold L2; omega) (.inl (by omega))
      rw [hr]
      have e : ((x.f2.toNat : Nat) : Int) = x.f2 := by omega
      simp [runL, stp, e]
  unfold lineL
  rw [hid, hc, List.append_assoc, List.append_assoc, List.append_assoc, List.append_assoc, runL_append, hday]
  have e : ((x.f0.toNat : Nat) : Int) = x.f0 := by omega
  simp only [Option.bind_some, e]
  have h32 : ((32 : UInt8).toNat : Int) = 32 := rfl
  have s0 : stp (.day x.f0 n) ((32 : UInt8).toNat : Int) = some (.cur x.f0 0) := by simp only [stp, h32]; rw [if_pos ⟨by omega, trivial⟩]
  have sc : ∀ (i : Nat) (z : UInt8), i < 3 → (65 ≤ (z.toNat : Int) ∧ (z.toNat : Int) ≤ 90) → stp (.cur x.f0 i) (z.toNat : Int) = some (.cur x.f0 (i + 1)) := fun i z hi hz => by simp only [stp]; rw [if_pos hi, if_pos hz]
  have s4 : stp (.cur x.f0 (0 + 1 + 1 + 1)) ((32 : UInt8).toNat : Int) = some (.am x.f0) := by simp [stp]
  simp only [List.cons_append, List.nil_append, runL]
  rw [s0]
  simp only [Option.bind_some]
  rw [sc 0 a (by omega) c0]
  simp only [Option.bind_some]
  rw [sc (0 + 1) b (by omega) c1]
  simp only [Option.bind_some]
  rw [sc (0 + 1 + 1) d (by omega) c2]
  simp only [Option.bind_some]
  rw [s4]
  simp only [Option.bind_some]
  exact hamt
end Go.Proofs.YtdfndbegifdejaaDoor.GD
