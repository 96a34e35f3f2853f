import Derived.Test.YtkfbkjcdngipcaaKinC
import Derived.Test.YtkfbkjcdngipcaaEq1
namespace Go.Proofs.Ytkfbkjcdngipcaa.PTreeEquals
open Go.RowKit Go.Proofs.YtkfbkjcdngipcaaW.PrintWords Go.Proofs.YtkfbkjcdngipcaaW.PrintLast Go.Proofs.YtkfbkjcdngipcaaW.PrintMore
attribute [local go_sem] max2_int min2_int max_two min_two max_three min_three max_four min_four
set_option linter.unusedVariables false
set_option linter.unusedSimpArgs false
theorem eqlD (x y : S23) (w : World) : (binOp .eql 23 (.agg #[.int .i64 x.f0, .int .i64 x.f1, .int .i64 x.f2]) (.agg #[.int .i64 y.f0, .int .i64 y.f1, .int .i64 y.f2])).run Try.prog w = .ok (.bool (sm x y)) w := by
  have hu23 := Try.underlying23
  by_cases h : x = y
  · subst h
    rw [sm_self]
    go_simp
  · rw [sm_false h]
    obtain ⟨x0, x1, x2⟩ := x
    obtain ⟨y0, y1, y2⟩ := y
    simp only [S23.mk.injEq, not_and] at h
    go_simp
    exact h
theorem neqD (x y : S23) (w : World) : (binOp .neq 23 (.agg #[.int .i64 x.f0, .int .i64 x.f1, .int .i64 x.f2]) (.agg #[.int .i64 y.f0, .int .i64 y.f1, .int .i64 y.f2])).run Try.prog w = .ok (.bool (!sm x y)) w := by
  have hu23 := Try.underlying23
  by_cases h : x = y
  · subst h
    rw [sm_self]
    go_simp
  · rw [sm_false h]
    obtain ⟨x0, x1, x2⟩ := x
    obtain ⟨y0, y1, y2⟩ := y
    simp only [S23.mk.injEq, not_and] at h
    go_simp
    exact h
theorem eqlR (x y : S30) (w : World) : (binOp .eql 30 (.agg #[.int .i64 x.f0, .int .i64 x.f1, .int .i64 x.f2, .int .i64 x.f3, .int .i64 x.f4.f0, .int .i64 x.f4.f1, .int .i64 x.f4.f2, .int .i64 x.f5.f0, .int .i64 x.f5.f1, .int .i64 x.f5.f2, .int .i64 x.f6.f0, .int .i64 x.f6.f1, .int .i64 x.f7]) (.agg #[.int .i64 y.f0, .int .i64 y.f1, .int .i64 y.f2, .int .i64 y.f3, .int .i64 y.f4.f0, .int .i64 y.f4.f1, .int .i64 y.f4.f2, .int .i64 y.f5.f0, .int .i64 y.f5.f1, .int .i64 y.f5.f2, .int .i64 y.f6.f0, .int .i64 y.f6.f1, .int .i64 y.f7])).run Try.prog w = .ok (.bool (sm x y)) w := by
  have hu30 := Try.underlying30
  have hu23 := Try.underlying23
  have hu28 := Try.underlying28
  by_cases h : x = y
  · subst h
    rw [sm_self]
    go_simp
  · rw [sm_false h]
    obtain ⟨x0, x1, x2, x3, ⟨x40, x41, x42⟩, ⟨x50, x51, x52⟩, ⟨x60, x61⟩, x7⟩ := x
    obtain ⟨y0, y1, y2, y3, ⟨y40, y41, y42⟩, ⟨y50, y51, y52⟩, ⟨y60, y61⟩, y7⟩ := y
    simp only [S30.mk.injEq, S23.mk.injEq, S28.mk.injEq, not_and] at h
    go_simp
    intro h0 h1 h2 h3 a b c d e f g i
    exact h h0 h1 h2 h3 ⟨a, b, c⟩ ⟨d, e, f⟩ ⟨g, i⟩
theorem neqR (x y : S30) (w : World) : (binOp .neq 30 (.agg #[.int .i64 x.f0, .int .i64 x.f1, .int .i64 x.f2, .int .i64 x.f3, .int .i64 x.f4.f0, .int .i64 x.f4.f1, .int .i64 x.f4.f2, .int .i64 x.f5.f0, .int .i64 x.f5.f1, .int .i64 x.f5.f2, .int .i64 x.f6.f0, .int .i64 x.f6.f1, .int .i64 x.f7]) (.agg #[.int .i64 y.f0, .int .i64 y.f1, .int .i64 y.f2, .int .i64 y.f3, .int .i64 y.f4.f0, .int .i64 y.f4.f1, .int .i64 y.f4.f2, .int .i64 y.f5.f0, .int .i64 y.f5.f1, .int .i64 y.f5.f2, .int .i64 y.f6.f0, .int .i64 y.f6.f1, .int .i64 y.f7])).run Try.prog w = .ok (.bool (!sm x y)) w := by
  have hu30 := Try.underlying30
  have hu23 := Try.underlying23
  have hu28 := Try.underlying28
  by_cases h : x = y
  · subst h
    rw [sm_self]
    go_simp
  · rw [sm_false h]
    obtain ⟨x0, x1, x2, x3, ⟨x40, x41, x42⟩, ⟨x50, x51, x52⟩, ⟨x60, x61⟩, x7⟩ := x
    obtain ⟨y0, y1, y2, y3, ⟨y40, y41, y42⟩, ⟨y50, y51, y52⟩, ⟨y60, y61⟩, y7⟩ := y
    simp only [S30.mk.injEq, S23.mk.injEq, S28.mk.injEq, not_and] at h
    go_simp
    intro h0 h1 h2 h3 a b c d e f g i
    exact h h0 h1 h2 h3 ⟨a, b, c⟩ ⟨d, e, f⟩ ⟨g, i⟩
theorem size23 : (Try.prog.info? 23).map (fun i => i.size) = some 3 := by kernel_rfl
theorem size30 : (Try.prog.info? 30).map (fun i => i.size) = some 13 := by kernel_rfl
theorem datesEq.calls (A0 : Option Addr) (c0 : Nat) (l0 : List S23) (A1 : Option Addr) (c1 : Nat) (l1 : List S23) (w : World) (hr0 : Kd.C k23 w A0 l0.length l0) (hc0 : l0.length ≤ c0) (hr1 : Kd.C k23 w A1 l1.length l1) (hc1 : l1.length ≤ c1) : Calls Try.prog 22 #[.slice A0 l0.length c0, .slice A1 l1.length c1] w fun e w' => e = .returned (.bool (sm l0 l1)) ∧ Below w.heap.size w w' := by
  obtain ⟨k, h⟩ := datesEq l0 l1 (Kd.C_max hr0)
  exact (api_Date.calls k A0 c0 l0 A1 c1 l1 _ w hr0 hc0 hr1 hc1 h).mono (fun e w' h => ⟨h.1, by first | exact h.2 | (obtain ⟨m, hm⟩ := h.2; rw [hm]; exact pw_below_drewN (Below.refl _ _) m) | exact h.2.below⟩)
theorem textsEq.calls (A0 : Option Addr) (c0 : Nat) (l0 : List ByteArray) (A1 : Option Addr) (c1 : Nat) (l1 : List ByteArray) (w : World) (hr0 : Kd.C Kd.string w A0 l0.length l0) (hc0 : l0.length ≤ c0) (hr1 : Kd.C Kd.string w A1 l1.length l1) (hc1 : l1.length ≤ c1) : Calls Try.prog 23 #[.slice A0 l0.length c0, .slice A1 l1.length c1] w fun e w' => e = .returned (.bool (sm l0 l1)) ∧ Below w.heap.size w w' := by
  obtain ⟨k, h⟩ := textsEq l0 l1 (Kd.C_max hr0)
  exact (slices_Equal_string_string.calls k A0 c0 l0 A1 c1 l1 _ w hr0 hc0 hr1 hc1 h).mono (fun e w' h => ⟨h.1, by first | exact h.2 | (obtain ⟨m, hm⟩ := h.2; rw [hm]; exact pw_below_drewN (Below.refl _ _) m) | exact h.2.below⟩)
theorem sameDates.calls (A0 : Option Addr) (c0 : Nat) (l0 : List S23) (A1 : Option Addr) (c1 : Nat) (l1 : List S23) (w : World) (hr0 : Kd.C k23 w A0 l0.length l0) (hc0 : l0.length ≤ c0) (hr1 : Kd.C k23 w A1 l1.length l1) (hc1 : l1.length ≤ c1) : Calls Try.prog 27 #[.slice A0 l0.length c0, .slice A1 l1.length c1] w fun e w' => e = .returned (.bool (sm l0 l1)) ∧ Below w.heap.size w w' := by
  obtain ⟨k, h⟩ := sameDates_sm l0 l1 (Kd.C_max hr0)
  exact (payoffref07_sameDates.calls k A0 c0 l0 A1 c1 l1 _ w hr0 hc0 hr1 hc1 h).mono (fun e w' h => ⟨h.1, by first | exact h.2 | (obtain ⟨m, hm⟩ := h.2; rw [hm]; exact pw_below_drewN (Below.refl _ _) m) | exact h.2.below⟩)
theorem sameTexts.calls (A0 : Option Addr) (c0 : Nat) (l0 : List ByteArray) (A1 : Option Addr) (c1 : Nat) (l1 : List ByteArray) (w : World) (hr0 : Kd.C Kd.string w A0 l0.length l0) (hc0 : l0.length ≤ c0) (hr1 : Kd.C Kd.string w A1 l1.length l1) (hc1 : l1.length ≤ c1) : Calls Try.prog 28 #[.slice A0 l0.length c0, .slice A1 l1.length c1] w fun e w' => e = .returned (.bool (sm l0 l1)) ∧ Below w.heap.size w w' := by
  obtain ⟨k, h⟩ := sameTexts_sm l0 l1 (Kd.C_max hr0)
  exact (payoffref07_sameTexts.calls k A0 c0 l0 A1 c1 l1 _ w hr0 hc0 hr1 hc1 h).mono (fun e w' h => ⟨h.1, by first | exact h.2 | (obtain ⟨m, hm⟩ := h.2; rw [hm]; exact pw_below_drewN (Below.refl _ _) m) | exact h.2.below⟩)
theorem S34_ext {x y : S34} (h0 : x.f0 = y.f0) (h1 : x.f1 = y.f1) (h2 : x.f2 = y.f2) (h3 : x.f3 = y.f3) (h4 : x.f4 = y.f4) (h5 : x.f5 = y.f5) (h6 : x.f6 = y.f6) (h7 : x.f7 = y.f7) (h8 : x.f8 = y.f8) : x = y := by cases x; cases y; simp_all
structure S36 where
  f0 : ByteArray
  f1 : S23
  f2 : List S23
  f3 : List ByteArray
  f4 : List S56
  f5 : S34
def k36 : Kd S36 := Kd.iso (Kd.pair Kd.string (Kd.pair k23 (Kd.pair (Kd.slice 23 k23) (Kd.pair (Kd.slice 9 Kd.string) (Kd.pair (Kd.slice 56 k56) k34))))) (fun x : S36 => (x.f0, x.f1, x.f2, x.f3, x.f4, x.f5))
theorem k36_open {w : World} {x : S36} {cs : List Value} (h : k36.K w x cs) : ∃ A2 A2c A3 A3c A4 A4c A7 A7c A8 A8c, cs = [.string x.f0, .int .i64 x.f1.f0, .int .i64 x.f1.f1, .int .i64 x.f1.f2, .slice A2 x.f2.length A2c, .slice A3 x.f3.length A3c, .slice A4 x.f4.length A4c, .int .i64 x.f5.f0, .string x.f5.f1, .string x.f5.f2, .string x.f5.f3, .int .i64 x.f5.f4, .int .i64 x.f5.f5.f0, .int .i64 x.f5.f5.f1, .int .i64 x.f5.f5.f2, .int .i64 x.f5.f6.f0, .int .i64 x.f5.f6.f1, .int .i64 x.f5.f6.f2, .int .i64 x.f5.f6.f3, .int .i64 x.f5.f6.f4.f0, .int .i64 x.f5.f6.f4.f1, .int .i64 x.f5.f6.f4.f2, .int .i64 x.f5.f6.f5.f0, .int .i64 x.f5.f6.f5.f1, .int .i64 x.f5.f6.f5.f2, .int .i64 x.f5.f6.f6.f0, .int .i64 x.f5.f6.f6.f1, .int .i64 x.f5.f6.f7, .slice A7 x.f5.f7.length A7c, .slice A8 x.f5.f8.length A8c] ∧ x.f2.length ≤ A2c ∧ k23.C w A2 x.f2.length x.f2 ∧ x.f3.length ≤ A3c ∧ Kd.string.C w A3 x.f3.length x.f3 ∧ x.f4.length ≤ A4c ∧ k56.C w A4 x.f4.length x.f4 ∧ x.f5.f7.length ≤ A7c ∧ k54.C w A7 x.f5.f7.length x.f5.f7 ∧ x.f5.f8.length ≤ A8c ∧ k34.C w A8 x.f5.f8.length x.f5.f8 := by
  obtain ⟨_, _, rfl, rfl, ⟨_, _, rfl, s1, ⟨_, _, rfl, ⟨A2, c2, rfl, l2, g2⟩, ⟨_, _, rfl, ⟨A3, c3, rfl, l3, g3⟩, ⟨_, _, rfl, ⟨A4, c4, rfl, l4, g4⟩, s5⟩⟩⟩⟩⟩ := h
  obtain rfl := k23_open s1
  obtain ⟨A7, c7, A8, c8, rfl, l7, g7, l8, g8⟩ := k34_open s5
  exact ⟨A2, c2, A3, c3, A4, c4, A7, c7, A8, c8, rfl, l2, g2, l3, g3, l4, g4, l7, g7, l8, g8⟩
theorem k36_mk (w : World) (x : S36) {A2 : Option Addr} {A2c : Nat} (l2 : x.f2.length ≤ A2c) (g2 : k23.C w A2 x.f2.length x.f2) {A3 : Option Addr} {A3c : Nat} (l3 : x.f3.length ≤ A3c) (g3 : Kd.string.C w A3 x.f3.length x.f3) {A4 : Option Addr} {A4c : Nat} (l4 : x.f4.length ≤ A4c) (g4 : k56.C w A4 x.f4.length x.f4) {A7 : Option Addr} {A7c : Nat} (l7 : x.f5.f7.length ≤ A7c) (g7 : k54.C w A7 x.f5.f7.length x.f5.f7) {A8 : Option Addr} {A8c : Nat} (l8 : x.f5.f8.length ≤ A8c) (g8 : k34.C w A8 x.f5.f8.length x.f5.f8) : k36.K w x [.string x.f0, .int .i64 x.f1.f0, .int .i64 x.f1.f1, .int .i64 x.f1.f2, .slice A2 x.f2.length A2c, .slice A3 x.f3.length A3c, .slice A4 x.f4.length A4c, .int .i64 x.f5.f0, .string x.f5.f1, .string x.f5.f2, .string x.f5.f3, .int .i64 x.f5.f4, .int .i64 x.f5.f5.f0, .int .i64 x.f5.f5.f1, .int .i64 x.f5.f5.f2, .int .i64 x.f5.f6.f0, .int .i64 x.f5.f6.f1, .int .i64 x.f5.f6.f2, .int .i64 x.f5.f6.f3, .int .i64 x.f5.f6.f4.f0, .int .i64 x.f5.f6.f4.f1, .int .i64 x.f5.f6.f4.f2, .int .i64 x.f5.f6.f5.f0, .int .i64 x.f5.f6.f5.f1, .int .i64 x.f5.f6.f5.f2, .int .i64 x.f5.f6.f6.f0, .int .i64 x.f5.f6.f6.f1, .int .i64 x.f5.f6.f7, .slice A7 x.f5.f7.length A7c, .slice A8 x.f5.f8.length A8c] :=
  ⟨[.string x.f0], _, rfl, rfl, ⟨_, _, rfl, k23_mk w x.f1, ⟨_, _, rfl, ⟨A2, A2c, rfl, l2, g2⟩, ⟨_, _, rfl, ⟨A3, A3c, rfl, l3, g3⟩, ⟨_, _, rfl, ⟨A4, A4c, rfl, l4, g4⟩, k34_mk w x.f5 l7 g7 l8 g8⟩⟩⟩⟩⟩
theorem S36_ext {x y : S36} (h0 : x.f0 = y.f0) (h1 : x.f1 = y.f1) (h2 : x.f2 = y.f2) (h3 : x.f3 = y.f3) (h4 : x.f4 = y.f4) (h5 : x.f5 = y.f5) : x = y := by cases x; cases y; simp_all
theorem size36' : (Try.prog.info? 36).map (fun i => i.size) = some 30 := by kernel_rfl
end Go.Proofs.Ytkfbkjcdngipcaa.PTreeEquals
