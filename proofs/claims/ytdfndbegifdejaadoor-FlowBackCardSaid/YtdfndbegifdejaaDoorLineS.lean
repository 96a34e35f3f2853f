/- What the program's reader of a line answers: a line that is printed so, or the place at which the automaton stands still. -/
import Derived.Test.YtdfndbegifdejaaDoorAuto
namespace Go.Proofs.YtdfndbegifdejaaDoor.GD
set_option linter.unusedVariables false
set_option linter.unusedSimpArgs false
open Go.RowKit Go.Proofs.YtdfndbegifdejaaDoorW.PrintWords

theorem want_f (s : ByteArray) (p : Nat) (hp : p ≤ s.size) (hsz : s.size ≤ 1048576) (c : Int) :
    flow_reader_want.f s (p : Int) c = some (if p < s.size ∧ by_ s p = c then (true, s, ((p + 1 : Nat) : Int)) else (false, s, (p : Int))) := by
  unfold flow_reader_want.f
  by_cases hin : p < s.size
  · rw [next_in s p hin]
    simp only [Option.bind_some, if_true]
    by_cases hc : by_ s p = c
    · rw [if_pos hc, if_pos ⟨hin, hc⟩, w64_nat p (by omega)]
    · rw [if_neg hc, if_neg (fun h => hc h.2)]
  · obtain rfl : p = s.size := by omega
    rw [next_end, if_neg (fun h => hin h.1)]
    simp only [Option.bind_some, Bool.false_eq_true, if_false]
theorem neg_back (v : Int) (h0 : 0 ≤ v) (h1 : v ≤ 9223372036854775808) : wrap64 (IntKind.u64.wrap (-v)) = -v := by
  simp only [IntKind.wrap, IntKind.signed, IntKind.bits, wrap64]
  simp
  omega
def Enough (s : ByteArray) (k : Nat) : Prop := 8 * s.size + 40 < k
theorem num_prog (s : ByteArray) (L : Int) (hL : 9 ≤ L) (hL2 : L ≤ 9223372036854775808) (hsz : s.size ≤ 1048576) (a m k : Nat) (hg : Good s L a m) (hs : ¬ Step s L a m) (ham : a + m ≤ s.size) (hk : Enough s k) :
    flow_reader_number.f k s (a : Int) L = some (numAns s a m) := by
  have h := number_l0 s L hL hL2 hsz a m hg hs ham m 0 k (by omega) (by unfold Enough at hk; omega)
  simpa [flow_reader_number.f, vv] using h
/-- A number from a place on: how many digits fit; whether it is one; where no digit may stand behind it. -/
theorem num_spec (s : ByteArray) (L : Int) (hL : 9 ≤ L) (hL2 : L ≤ 9223372036854775808) (hsz : s.size ≤ 1048576) (a k : Nat) (ha : a ≤ s.size) (hk : Enough s k) :
    ∃ (m : Nat) (v : Int) (ok : Bool), Good s L a m ∧ ¬ Step s L a m ∧ a + m ≤ s.size ∧ flow_reader_number.f k s (a : Int) L = some (v, ok, s, ((a + m : Nat) : Int)) ∧
      (ok = true → 0 < m ∧ v = vv s a m ∧ ¬ (a + m < s.size ∧ 48 ≤ by_ s (a + m) ∧ by_ s (a + m) ≤ 57)) ∧ (ok = false → 0 < m → a + m < s.size ∧ 48 ≤ by_ s (a + m) ∧ by_ s (a + m) ≤ 57) := by
  obtain ⟨m, hg, hs, ham⟩ := stop_exists s L a ha
  have h1 := num_prog s L hL hL2 hsz a m k hg hs ham hk
  unfold numAns at h1
  by_cases h : a + m < s.size ∧ 48 ≤ by_ s (a + m) ∧ by_ s (a + m) ≤ 57
  · rw [if_pos h] at h1
    exact ⟨m, 0, false, hg, hs, ham, h1, (fun e => by cases e), fun _ _ => h⟩
  · rw [if_neg h] at h1
    by_cases hm : 0 < m
    · rw [decide_eq_true hm] at h1
      exact ⟨m, _, true, hg, hs, ham, h1, fun _ => ⟨hm, rfl, h⟩, fun e => by cases e⟩
    · rw [decide_eq_false hm] at h1
      exact ⟨m, _, false, hg, hs, ham, h1, (fun e => by cases e), fun _ h2 => absurd h2 hm⟩
theorem dig_stop {s : ByteArray} {L : Int} {a m : Nat} (hs : ¬ Step s L a m) (hin : a + m < s.size) : dig L (vv s a m) m (by_ s (a + m)) = none := dig_none hin hs
theorem amt_spec (s : ByteArray) (d : Int) (hsz : s.size ≤ 1048576) (a k : Nat) (ha : a ≤ s.size) (hk : Enough s k) :
    ∃ (q : Nat) (v : Int) (ok : Bool) (st : St), flow_reader_amount.f k s (a : Int) = some (v, ok, s, (q : Int)) ∧ q ≤ s.size ∧ Reach s (.am d) a st q ∧ (∀ x y, st ≠ .fin x y) ∧
      (ok = false → Stuck s st q) ∧ (ok = true → stp st 10 = some (.fin d v) ∧ (q < s.size → by_ s q ≠ 10 → stp st (by_ s q) = none) ∧ seg s a q = Lib.itoa v ∧ InI v) := by
  unfold flow_reader_amount.f
  rw [want_f s a ha hsz]
  by_cases hneg : a < s.size ∧ by_ s a = 45
  · rw [if_pos hneg]
    simp only [Option.bind_some, if_true]
    obtain ⟨hin, hm45⟩ := hneg
    have hng : Reach s (.am d) a (.ng d) (a + 1) := Reach.one hin (by simp [stp, hm45])
    by_cases h0 : a + 1 < s.size ∧ by_ s (a + 1) = 48
    · rw [next_in s (a + 1) h0.1]
      simp only [Option.bind_some, if_true, h0.2]
      exact ⟨a + 1, 0, false, .ng d, rfl, by omega, hng, (fun x y e => by cases e), (fun _ _ => by simp [stp, h0.2]), fun e => by cases e⟩
    · obtain ⟨m, v, ok, hg, hs, ham, h1, hy, hn⟩ := num_spec s L3 (by unfold L3; omega) (by unfold L3; omega) hsz (a + 1) k (by omega) hk
      have hv := vv_range (by unfold L3; omega) hg
      have hres : ∃ v', flow_reader_next.f s ((a + 1 : Nat) : Int) = some (v', decide (a + 1 < s.size), s, ((a + 1 : Nat) : Int)) ∧ (a + 1 < s.size → v' = by_ s (a + 1)) := by
        by_cases hin1 : a + 1 < s.size
        · exact ⟨_, by rw [next_in s (a + 1) hin1, decide_eq_true hin1], fun _ => rfl⟩
        · have he : a + 1 = s.size := by omega
          exact ⟨0, by rw [decide_eq_false hin1, he, next_end], fun h => absurd h hin1⟩
      obtain ⟨v', hnx, hv'⟩ := hres
      rw [hnx]
      simp only [Option.bind_some]
      have hsame : ∀ f g : Option (Int × Bool × ByteArray × Int), (if decide (a + 1 < s.size) = true then (if v' = 48 then f else g) else g) = g := by
        intro f g
        by_cases hin1 : a + 1 < s.size
        · rw [if_pos (decide_eq_true hin1), if_neg (fun e => h0 ⟨hin1, by rw [← hv' hin1]; exact e⟩)]
        · rw [if_neg (by simpa using hin1)]
      rw [hsame, show (9223372036854775808 : Int) = L3 from rfl, h1]
      simp only [Option.bind_some]
      match m, hg, hs, ham, h1, hy, hn, hv with
      | 0, hg, hs, ham, h1, hy, hn, hv =>
        refine ⟨a + 1 + 0, _, ok, .ng d, rfl, by omega, hng, (fun x y e => by cases e), fun _ hin1 => ?_, fun e => by have := (hy e).1; omega⟩
        have h := dig_none hin1 hs
        simp only [stp]
        by_cases h48 : by_ s (a + 1 + 0) = 48
        · rw [if_pos h48]
        · rw [if_neg h48, show (0 : Int) = vv s (a + 1) 0 from rfl, h]; rfl
      | m + 1, hg, hs, ham, h1, hy, hn, hv =>
        have hne : by_ s (a + 1) ≠ 48 := fun e => h0 ⟨by have := (hg 0 (by omega)).1; omega, e⟩
        have hr := hng.trans (reach_neg (d := d) hne m hg)
        have hp0 : vv s (a + 1) (m + 1) ≠ 0 := fun e => hne ((vv_pos (by unfold L3; omega) hg (by omega)).1 e).1
        refine ⟨a + 1 + (m + 1), _, ok, _, rfl, ham, hr, (fun x y e => by cases e), fun e hin1 => ?_, fun e => ?_⟩
        · obtain ⟨h2, h3, h4⟩ := hn e (by omega)
          simp only [stp]
          rw [if_neg (by omega), dig_none h2 hs]; rfl
        · obtain ⟨_, rfl, hnd⟩ := hy e
          have hL3 : vv s (a + 1) (m + 1) ≤ 9223372036854775808 := hv.2
          rw [neg_back _ hv.1 hL3]
          refine ⟨by simp [stp], fun hin1 h10 => ?_, ?_, ⟨by omega, by omega⟩⟩
          · simp only [stp]
            rw [if_neg h10, dig_none hin1 hs]; rfl
          · rw [← seg_append s (show a ≤ a + 1 by omega) (show a + 1 ≤ a + 1 + (m + 1) by omega), seg_byte s (n := 45) hin hm45 (by omega), digits_sound (by unfold L3; omega) m hg]
            unfold Lib.itoa
            rw [if_pos (by omega)]
            have : (-vv s (a + 1) (m + 1)).natAbs = (vv s (a + 1) (m + 1)).toNat := by omega
            rw [this]; rfl
  · rw [if_neg hneg]
    simp only [Option.bind_some, Bool.false_eq_true, if_false]
    obtain ⟨m, v, ok, hg, hs, ham, h1, hy, hn⟩ := num_spec s L2 (by unfold L2; omega) (by unfold L2; omega) hsz a k ha hk
    have hv := vv_range (by unfold L2; omega) hg
    rw [show (9223372036854775807 : Int) = L2 from rfl, h1]
    simp only [Option.bind_some]
    match m, hg, hs, ham, h1, hy, hn, hv with
    | 0, hg, hs, ham, h1, hy, hn, hv =>
      refine ⟨a + 0, _, ok, .am d, rfl, by omega, .refl _ _, (fun x y e => by cases e), fun _ hin1 => ?_, fun e => by have := (hy e).1; omega⟩
      have h := dig_none hin1 hs
      simp only [stp]
      have h45 : by_ s (a + 0) ≠ 45 := fun e => hneg ⟨hin1, e⟩
      rw [if_neg h45, show (0 : Int) = vv s a 0 from rfl, h]; rfl
    | m + 1, hg, hs, ham, h1, hy, hn, hv =>
      refine ⟨a + (m + 1), _, ok, _, rfl, ham, reach_pos (d := d) m hg, (fun x y e => by cases e), fun e hin1 => ?_, fun e => ?_⟩
      · obtain ⟨h2, h3, h4⟩ := hn e (by omega)
        simp only [stp]
        rw [if_neg (by omega), dig_none h2 hs]; rfl
      · obtain ⟨_, rfl, hnd⟩ := hy e
        have hL2 : vv s a (m + 1) ≤ 9223372036854775807 := hv.2
        rw [show wrap64 (vv s a (m + 1)) = vv s a (m + 1) by unfold wrap64; omega]
        refine ⟨by simp [stp], fun hin1 h10 => ?_, ?_, ⟨by omega, by omega⟩⟩
        · simp only [stp]
          rw [if_neg h10, dig_none hin1 hs]; rfl
        · rw [digits_sound (by unfold L2; omega) m hg]
          unfold Lib.itoa
          rw [if_neg (by omega)]
/-- What the reader of a line answers. -/
def Res (s : ByteArray) (st : St) (p : Nat) (P : Option (Int × ByteArray × Int × Bool × ByteArray × Int)) (good : Int → ByteArray → Int → Nat → Prop) : Prop :=
  (∃ (d : Int) (c : ByteArray) (a : Int) (q : Nat), P = some (d, c, a, true, s, (q : Int)) ∧ q ≤ s.size ∧ Reach s st p (.fin d a) q ∧ good d c a q) ∨
  (∃ (q : Nat) (st' : St), P = some (0, ⟨#[]⟩, 0, false, s, (q : Int)) ∧ q ≤ s.size ∧ Reach s st p st' q ∧ Stuck s st' q ∧ ∀ x y, st' ≠ .fin x y)
theorem Res.before {s : ByteArray} {st st1 : St} {p p1 : Nat} {P : Option (Int × ByteArray × Int × Bool × ByteArray × Int)} {good : Int → ByteArray → Int → Nat → Prop} (h : Reach s st p st1 p1) (r : Res s st1 p1 P good) : Res s st p P good := by
  rcases r with ⟨d, c, a, q, h1, h2, h3, h4⟩ | ⟨q, st', h1, h2, h3, h4⟩
  · exact .inl ⟨d, c, a, q, h1, h2, h.trans h3, h4⟩
  · exact .inr ⟨q, st', h1, h2, h.trans h3, h4⟩
theorem Res.imp {s : ByteArray} {st : St} {p : Nat} {P : Option (Int × ByteArray × Int × Bool × ByteArray × Int)} {g g' : Int → ByteArray → Int → Nat → Prop} (r : Res s st p P g) (h : ∀ d c a q, g d c a q → g' d c a q) : Res s st p P g' := by
  rcases r with ⟨d, c, a, q, h1, h2, h3, h4⟩ | h
  · exact .inl ⟨d, c, a, q, h1, h2, h3, h _ _ _ _ h4⟩
  · exact .inr h
theorem tail_end (s : ByteArray) (hsz : s.size ≤ 1048576) (f : Nat) (hf : f + 3 ≤ s.size) (day : Int) (hday : wrap64 day = day) (k : Nat) (hk : 8 * s.size + 50 < k) :
    Res s (.cur day 3) (f + 3) (flow_reader_line.l0 k day (f : Int) 3 s ((f + 3 : Nat) : Int)) (fun d c a q => d = day ∧ c = s.extract f (f + 3) ∧ InI a ∧ seg s (f + 3) q = [32] ++ Lib.itoa a ++ [10]) := by
  obtain ⟨k, rfl⟩ : ∃ q, k = q + 1 := ⟨k - 1, by omega⟩
  simp only [flow_reader_line.l0]
  rw [if_neg (by omega), if_pos (by omega), if_pos (by omega), if_pos (by omega), want_f s (f + 3) hf hsz]
  by_cases h32 : f + 3 < s.size ∧ by_ s (f + 3) = 32
  · rw [if_pos h32]
    simp only [Option.bind_some, if_true]
    have hr : Reach s (.cur day 3) (f + 3) (.am day) (f + 3 + 1) := Reach.one h32.1 (by simp [stp, h32.2])
    obtain ⟨q, v, ok, st, h1, h2, h3, h4, h5, h6⟩ := amt_spec s day hsz (f + 3 + 1) k (by omega) (by unfold Enough; omega)
    rw [h1]
    simp only [Option.bind_some]
    refine Res.before (hr.trans h3) ?_
    cases ok with
    | false =>
      simp only [Bool.false_eq_true, if_false]
      exact .inr ⟨q, st, rfl, h2, .refl _ _, h5 rfl, h4⟩
    | true =>
      simp only [if_true]
      obtain ⟨g1, g2, g3, g4⟩ := h6 rfl
      rw [want_f s q h2 hsz]
      by_cases h10 : q < s.size ∧ by_ s q = 10
      · rw [if_pos h10]
        simp only [Option.bind_some, if_true]
        refine .inl ⟨day, _, v, q + 1, by rw [hday]; rfl, by omega, Reach.one h10.1 (by rw [h10.2]; exact g1), rfl, rfl, g4, ?_⟩
        have hq := h3.le
        rw [← seg_append s (show f + 3 ≤ f + 3 + 1 by omega) (show f + 3 + 1 ≤ q + 1 by omega), ← seg_append s hq (show q ≤ q + 1 by omega), g3, seg_byte s (n := 32) h32.1 h32.2 (by omega), seg_byte s (n := 10) h10.1 h10.2 (by omega)]
        simp
      · rw [if_neg h10]
        simp only [Option.bind_some, Bool.false_eq_true, if_false]
        exact .inr ⟨q, st, rfl, h2, .refl _ _, fun hin => g2 hin (fun e => h10 ⟨hin, e⟩), h4⟩
  · rw [if_neg h32]
    simp only [Option.bind_some, Bool.false_eq_true, if_false]
    refine .inr ⟨f + 3, .cur day 3, rfl, hf, .refl _ _, fun hin => ?_, fun x y e => by cases e⟩
    simp only [stp]
    rw [if_neg (by omega), if_neg (fun e => h32 ⟨hin, e⟩)]
theorem tail_l0 (s : ByteArray) (hsz : s.size ≤ 1048576) (f : Nat) (day : Int) (hday : wrap64 day = day) :
    ∀ (d i k : Nat), i + d = 3 → f + i ≤ s.size → 8 * s.size + 50 + d < k → (∀ j, j < i → 65 ≤ by_ s (f + j) ∧ by_ s (f + j) ≤ 90) →
      Res s (.cur day i) (f + i) (flow_reader_line.l0 k day (f : Int) (i : Int) s ((f + i : Nat) : Int)) (fun d c a q => d = day ∧ c = s.extract f (f + 3) ∧ InI a ∧ f + 3 ≤ s.size ∧ (∀ j, j < 3 → 65 ≤ by_ s (f + j) ∧ by_ s (f + j) ≤ 90) ∧ f + 3 ≤ q ∧ seg s (f + 3) q = [32] ++ Lib.itoa a ++ [10]) := by
  intro d
  induction d with
  | zero =>
    intro i k hi hf hk hc
    obtain rfl : i = 3 := by omega
    have hr := tail_end s hsz f hf day hday k (by omega)
    rcases hr with ⟨d, c, a, q, h1, h2, h3, h4, h5, h6, h7⟩ | h
    · exact .inl ⟨d, c, a, q, h1, h2, h3, h4, h5, h6, hf, hc, h3.le, h7⟩
    · exact .inr h
  | succ d ih =>
    intro i k hi hf hk hc
    obtain ⟨k, rfl⟩ : ∃ q, k = q + 1 := ⟨k - 1, by omega⟩
    simp only [flow_reader_line.l0]
    rw [if_pos (by omega)]
    by_cases hin : f + i < s.size
    · rw [next_in s (f + i) hin]
      simp only [Option.bind_some, if_true]
      by_cases h65 : by_ s (f + i) < 65
      · rw [if_pos h65]
        refine .inr ⟨f + i, .cur day i, rfl, hf, .refl _ _, fun _ => ?_, fun x y e => by cases e⟩
        simp only [stp]
        rw [if_pos (by omega), if_neg (by omega)]
      · rw [if_neg h65]
        by_cases h90 : by_ s (f + i) > 90
        · rw [if_pos h90]
          refine .inr ⟨f + i, .cur day i, rfl, hf, .refl _ _, fun _ => ?_, fun x y e => by cases e⟩
          simp only [stp]
          rw [if_pos (by omega), if_neg (by omega)]
        · rw [if_neg h90, w64_nat i (by omega), w64_nat (f + i) (by omega)]
          refine Res.before (Reach.one hin ?_) (ih (i + 1) k (by omega) (by omega) (by omega) ?_)
          · simp only [stp]
            rw [if_pos (by omega), if_pos ⟨by omega, by omega⟩]
          · intro j hj
            by_cases e : j = i
            · subst e; omega
            · exact hc j (by omega)
    · obtain he : f + i = s.size := by omega
      rw [he, next_end]
      simp only [Option.bind_some, Bool.false_eq_true, if_false]
      exact .inr ⟨s.size, .cur day i, rfl, by omega, .refl _ _, fun h => absurd h (by omega), fun x y e => by cases e⟩
theorem ext_bt (s : ByteArray) (f j : Nat) (hf : f + 3 ≤ s.size) (hj : j < 3) : bt (s.extract f (f + 3)) (j : Int) = by_ s (f + j) := by
  have hz : (s.extract f (f + 3)).size = 3 := by rw [ByteArray.size_extract]; omega
  unfold by_ bt
  rw [dif_pos (show ((j : Int)).toNat < _ by rw [hz]; simpa using hj), dif_pos (show (((f + j : Nat) : Int)).toNat < s.size by simp; omega)]
  congr 2
  have e : ((f : Int) + (j : Int)).toNat = f + j := by omega
  simp [ByteArray.getElem_extract, e]
theorem line_spec (s : ByteArray) (hsz : s.size ≤ 1048576) (p : Nat) (hp : p ≤ s.size) (k : Nat) (hk : 8 * s.size + 60 < k) :
    Res s (.day 0 0) p (flow_reader_line.f k s (p : Int)) (fun d c a q => Fine ⟨d, c, a⟩ ∧ p < q ∧ seg s p q = lineL ⟨d, c, a⟩) := by
  obtain ⟨m, v, ok, hg, hs, ham, h1, hy, hn⟩ := num_spec s L1 (by unfold L1; omega) (by unfold L1; omega) hsz p k hp (by unfold Enough; omega)
  have hv := vv_range (by unfold L1; omega) hg
  have hL : vv s p m ≤ 1073741824 := hv.2
  have hr := reach_day (s := s) (a := p) m hg
  unfold flow_reader_line.f
  rw [show (1073741824 : Int) = L1 from rfl, h1]
  simp only [Option.bind_some]
  have bad : (p + m < s.size → ¬ (0 < m ∧ by_ s (p + m) = 32)) → Stuck s (.day (vv s p m) m) (p + m) := fun hno hin => by
    simp only [stp]
    rw [if_neg (hno hin), dig_none hin hs]; rfl
  have fail : ∀ st, Stuck s (.day (vv s p m) m) (p + m) → Res s (.day 0 0) p (some (0, ⟨#[]⟩, 0, false, s, ((p + m : Nat) : Int))) st := fun st hst => .inr ⟨p + m, _, rfl, ham, hr, hst, fun x y e => by cases e⟩
  obtain ⟨k, rfl⟩ : ∃ q, k = q + 1 := ⟨k - 1, by omega⟩
  cases ok with
  | false =>
    simp only [Bool.false_eq_true, if_false, flow_reader_line.j0, if_true]
    refine fail _ (bad fun hin ⟨hm, h32⟩ => ?_)
    have := hn rfl hm
    omega
  | true =>
    simp only [if_true]
    obtain ⟨hm, rfl, hnd⟩ := hy rfl
    rw [want_f s (p + m) ham hsz]
    by_cases h32 : p + m < s.size ∧ by_ s (p + m) = 32
    · rw [if_pos h32]
      simp only [Option.bind_some, Bool.not_true, flow_reader_line.j0, Bool.false_eq_true, if_false]
      have hw : wrap64 (vv s p m) = vv s p m := by unfold wrap64; omega
      have ht := tail_l0 s hsz (p + m + 1) (vv s p m) hw 3 0 k (by omega) (by omega) (by omega) (fun j hj => by omega)
      have hr2 : Reach s (.day 0 0) p (.cur (vv s p m) 0) (p + m + 1) := hr.trans (Reach.one h32.1 (by simp only [stp]; rw [if_pos ⟨hm, h32.2⟩]))
      refine (Res.before hr2 ht).imp ?_
      rintro d c a q ⟨rfl, rfl, hin, hf, hc, hq, hseg⟩
      have b0 := ext_bt s (p + m + 1) 0 hf (by omega)
      have b1 := ext_bt s (p + m + 1) 1 hf (by omega)
      have b2 := ext_bt s (p + m + 1) 2 hf (by omega)
      have hz : (s.extract (p + m + 1) (p + m + 1 + 3)).size = 3 := by rw [ByteArray.size_extract]; omega
      have c0 := hc 0 (by omega); have c1 := hc 1 (by omega); have c2 := hc 2 (by omega)
      refine ⟨⟨?_, ⟨by show _ ≤ vv s p m; omega, by show vv s p m ≤ _; omega⟩, hin⟩, by omega, ?_⟩
      · have hcap : cap3 (s.extract (p + m + 1) (p + m + 1 + 3)) = true := by
          unfold cap3
          simp only [Bool.and_eq_true, decide_eq_true_eq]
          refine ⟨⟨⟨⟨⟨⟨hz, ?_⟩, ?_⟩, ?_⟩, ?_⟩, ?_⟩, ?_⟩
          · exact b0 ▸ c0.1
          · exact b0 ▸ c0.2
          · exact b1 ▸ c1.1
          · exact b1 ▸ c1.2
          · exact b2 ▸ c2.1
          · exact b2 ▸ c2.2
        unfold vld
        simp only
        rw [if_pos hcap, if_neg (by omega), if_neg (by omega)]
      · obtain ⟨m, rfl⟩ : ∃ q, m = q + 1 := ⟨m - 1, by omega⟩
        rw [← seg_append s (show p ≤ p + (m + 1) by omega) (show p + (m + 1) ≤ q by omega), digits_sound (by unfold L1; omega) m hg, ← seg_append s (show p + (m + 1) ≤ p + (m + 1) + 1 by omega) (show p + (m + 1) + 1 ≤ q by omega), seg_byte s (n := 32) h32.1 h32.2 (by omega), ← seg_append s (show p + (m + 1) + 1 ≤ p + (m + 1) + 1 + 3 by omega) hq, hseg]
        have hcur : seg s (p + (m + 1) + 1) (p + (m + 1) + 1 + 3) = (s.extract (p + (m + 1) + 1) (p + (m + 1) + 1 + 3)).data.toList := by
          unfold seg
          simp [ByteArray.data_extract, Array.toList_extract, List.extract_eq_take_drop]
        rw [hcur]
        have hid : Lib.itoa (vv s p (m + 1)) = Lib.decDigits (vv s p (m + 1)).toNat := by unfold Lib.itoa; rw [if_neg (by omega)]
        unfold lineL
        simp only [hid]
        simp
    · rw [if_neg h32]
      simp only [Option.bind_some, Bool.not_false, flow_reader_line.j0, if_true]
      exact fail _ (bad fun hin ⟨_, h⟩ => h32 ⟨hin, h⟩)
end Go.Proofs.YtdfndbegifdejaaDoor.GD
