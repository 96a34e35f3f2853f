/- FlowOrders, the plain law: Valid and Compare of the program are the document's, over numbers and strings alone. -/
import Derived.Test.YtdfndbegifdejaaGOrdersx3
import Derived.Test.YtdfndbegifdejaaKFlowOrders
import Derived.Lib.Bytealg
namespace Go.Proofs.Ytdfndbegifdejaa.GOrders
set_option linter.unusedVariables false
set_option linter.unusedSimpArgs false
open Go.RowKit Go.Proofs.YtdfndbegifdejaaW.PrintWords Go.Proofs.YtdfndbegifdejaaW.PrintLast Go.Proofs.YtdfndbegifdejaaW.PrintMore

theorem cmp_less : ∀ a b : List UInt8, Lib.compareBytes a b = if Op.bytesLess a b = true then -1 else if (a == b) = true then 0 else 1
  | [], [] => by simp [Lib.compareBytes, Op.bytesLess]
  | [], _ :: _ => by simp [Lib.compareBytes, Op.bytesLess]
  | _ :: _, [] => by simp [Lib.compareBytes, Op.bytesLess]
  | x :: a, y :: b => by
    have ih := cmp_less a b
    simp only [Lib.compareBytes, Op.bytesLess, List.cons_beq_cons]
    by_cases h : x < y
    · simp [h]
    · by_cases h2 : y < x
      · have hne : ¬ x = y := by rintro rfl; exact h h2
        simp [h, h2, hne]
      · have he : x = y := by
          have h3 := UInt8.not_lt.1 h
          have h4 := UInt8.not_lt.1 h2
          exact UInt8.le_antisymm h4 h3
        subst he
        simp [h, ih]

theorem cmpInt (a b : Int) : cmp_Compare_int.f a b = some (if a < b then -1 else if a > b then 1 else 0) := by
  simp only [cmp_Compare_int.f, cmp_isNaN_int.f, Option.bind_some, bne_self_eq_false, Bool.false_eq_true, if_false]
  split <;> (try rfl)
  split <;> rfl

theorem or3 (a b c : Int) : cmp_Or_int.f 5 [a, b, c] = some (if a = 0 then (if b = 0 then c else b) else a) := by
  have w1 : wrap64 (0 + 1) = 1 := by decide +kernel
  have w2 : wrap64 (1 + 1) = 2 := by decide +kernel
  have w3 : wrap64 (2 + 1) = 3 := by decide +kernel
  have r0 : rd [a, b, c] 0 = a := rfl
  have r1 : rd [a, b, c] 1 = b := rfl
  have r2 : rd [a, b, c] 2 = c := rfl
  simp only [cmp_Or_int.f, cmp_Or_int.l0, List.length_cons, List.length_nil, w1, w2, w3, r0, r1, r2]
  by_cases ha : a = 0
  · by_cases hb : b = 0
    · by_cases hc : c = 0 <;> simp [ha, hb, hc]
    · simp [ha, hb]
  · simp [ha]

theorem cur_same (s : ByteArray) (hs : (s.size : Int) = 3) : ∀ (k : Nat) (i : Int), flow_currency.l0 k s (s.size : Int) i = payoffref03_Currency.l0 k s i := by
  intro k
  induction k with
  | zero => intro i; rfl
  | succ k ih =>
    intro i
    simp only [flow_currency.l0, payoffref03_Currency.l0]
    rw [hs, ← hs, ih]
theorem cur_some (s : ByteArray) (hs : (s.size : Int) = 3) : ∃ b, payoffref03_Currency.l0 5 s 0 = some b := by
  have w1 : wrap64 (0 + 1) = 1 := by decide +kernel
  have w2 : wrap64 (1 + 1) = 2 := by decide +kernel
  have w3 : wrap64 (2 + 1) = 3 := by decide +kernel
  have h0 : (0 : Int) < (s.size : Int) := by omega
  have h1 : (1 : Int) < (s.size : Int) := by omega
  have h2 : (2 : Int) < (s.size : Int) := by omega
  simp (decide := true) only [payoffref03_Currency.l0, w1, w2, w3, h0, h1, h2, if_true, if_false]
  repeat' split
  all_goals exact ⟨_, rfl⟩
theorem curF (s : ByteArray) : ∃ b, flow_currency.f 5 s = some b ∧ payoffref03_Currency.f 5 s = some b := by
  unfold flow_currency.f payoffref03_Currency.f
  by_cases h : (s.size : Int) = 3
  · obtain ⟨b, hb⟩ := cur_some s h
    exact ⟨b, by rw [if_pos h, cur_same s h, hb], by rw [if_pos h, hb]⟩
  · exact ⟨false, by rw [if_neg h], by rw [if_neg h]⟩

theorem FlowOrders.pure (a0 a2 b0 b2 : Int) (a1 b1 : ByteArray) : payofflaw03_FlowOrders.f 5 a0 a1 a2 b0 b1 b2 = some true := by
  obtain ⟨c, h1, h2⟩ := curF a1
  have hv : ∃ v, flow_Valid.f 5 a0 a1 a2 = some v ∧ payoffref03_Valid.f 5 a0 a1 a2 = some v := by
    unfold flow_Valid.f payoffref03_Valid.f
    rw [h1, h2]
    simp only [Option.bind_some]
    repeat' split
    all_goals first | exact ⟨_, rfl, rfl⟩ | (exfalso; omega)
  obtain ⟨v, hv1, hv2⟩ := hv
  have hc : ∃ r, flow_Compare.f 5 a0 a1 a2 b0 b1 b2 = some r ∧ payoffref03_Compare.f a0 a1 a2 b0 b1 b2 = some r := by
    unfold flow_Compare.f payoffref03_Compare.f
    simp only [cmpInt, strings_Compare.f, Option.bind_some, or3, cmp_less, ← ByteArray.toList_eq]
    by_cases hd : a0 < b0
    · simp [hd]
    · by_cases hd2 : a0 > b0
      · simp [hd, hd2]
      · by_cases hl : Op.bytesLess a1.toList b1.toList = true
        · simp [hd, hd2, hl]
        · cases he : (a1.toList == b1.toList)
          · simp [hd, hd2, hl, he]
          · by_cases hm : a2 < b2
            · simp [hd, hd2, hl, he, hm]
            · by_cases hm2 : a2 > b2 <;> simp [hd, hd2, hl, he, hm, hm2]
  obtain ⟨r, hc1, hc2⟩ := hc
  unfold payofflaw03_FlowOrders.f
  simp only [hv1, hv2, hc1, hc2, Option.bind_some, if_true, beq_self_eq_true]

theorem FlowOrders.walk (cs0 : Array Value) (x0 : S32) (cs1 : Array Value) (x1 : S32) (w : World) (h0 : k32.K w x0 cs0.toList) (_ : WF32 x0) (h1 : k32.K w x1 cs1.toList) (_ : WF32 x1) :
    Calls Try.prog 4 #[.agg cs0, .agg cs1] w fun e w' => e = .returned (.bool true) ∧ Below w.heap.size w w' := by
  have e0 : cs0 = #[.int .i64 x0.f0, .string x0.f1, .int .i64 x0.f2] := Array.ext' (k32_open h0)
  have e1 : cs1 = #[.int .i64 x1.f0, .string x1.f1, .int .i64 x1.f2] := Array.ext' (k32_open h1)
  subst e0; subst e1
  exact payofflaw03_FlowOrders.calls 5 _ _ _ _ _ _ true w (FlowOrders.pure _ _ _ _ _ _)
end Go.Proofs.Ytdfndbegifdejaa.GOrders
