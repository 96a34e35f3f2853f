/- FlowBack: the plain law, and the walk as the row asks it. -/
import Derived.Test.YtdfndbegifdejaaDoorParseS
import Derived.Test.YtdfndbegifdejaaDoorHeads
import Derived.Test.YtdfndbegifdejaaDoorGDx11
import Derived.Test.YtdfndbegifdejaaDoorKFlowBack
namespace Go.Proofs.YtdfndbegifdejaaDoor.GD
set_option linter.unusedVariables false
set_option linter.unusedSimpArgs false
open Go.RowKit Go.Proofs.YtdfndbegifdejaaDoorW.PrintWords

theorem decDigits_len : ∀ (j u : Nat), u < 10 ^ (j + 1) → (Lib.decDigits u).length ≤ j + 1
  | 0, u, h => by rw [Lib.decDigits_one (by simpa using h)]; simp
  | j + 1, u, h => by
    by_cases h10 : u < 10
    · rw [Lib.decDigits_one h10]; simp
    · rw [decDigits_step u (by omega), List.length_append]
      have := decDigits_len j (u / 10) (by rw [Nat.pow_succ] at h; omega)
      simp; omega
theorem line_len (x : S32) (h : Fine x) : (lineL x).length ≤ 37 := by
  obtain ⟨d0, d1, h3, _⟩ := h.parts
  have e2 := itoa_len x.f2 h.amt
  have hid : Lib.itoa x.f0 = Lib.decDigits x.f0.toNat := by unfold Lib.itoa; rw [if_neg (by omega)]
  have e0 := decDigits_len 9 x.f0.toNat (by omega)
  have e3 : x.f1.data.toList.length = 3 := h3
  unfold lineL
  simp only [List.length_append, List.length_cons, List.length_nil, e3, hid]; omega
theorem lines_le (l : List S32) (h : ∀ x ∈ l, Fine x) : (lines l).length ≤ 37 * l.length := by
  induction l with
  | nil => simp [lines]
  | cons x l ih =>
    have h1 := line_len x (h x (by simp))
    have h2 := ih (fun y hy => h y (by simp [hy]))
    rw [lines_cons, List.length_append, List.length_cons]; omega
theorem prn_fine : ∀ (l : List S32) (acc : List UInt8), (acc ++ lines l).length ≤ 1048576 → prn acc l = some (acc ++ lines l)
  | [], acc, _ => by simp [prn, lines]
  | x :: l, acc, h => by
    rw [lines_cons, ← List.append_assoc] at h ⊢
    unfold prn
    rw [if_pos (by rw [List.length_append] at h; omega)]
    exact prn_fine l _ h
theorem firstBad_fine : ∀ (l : List S32), (∀ x ∈ l, Fine x) → firstBad l = 0
  | [], _ => rfl
  | x :: l, h => by
    unfold firstBad
    rw [if_pos (h x (by simp)).ok]
    exact firstBad_fine l (fun y hy => h y (by simp [hy]))
theorem print_fine (l : List S32) (h : ∀ x ∈ l, Fine x) (hl : (lines l).length ≤ 1048576) : flow_Print.f l = some (⟨(lines l).toArray⟩, 0) := by
  unfold flow_Print.f
  have hn : l.length ≤ (lines l).length := lines_len l
  rw [if_pos ⟨fun x hx => ⟨(h x hx).day, (h x hx).amt⟩, by omega⟩]
  unfold printP
  rw [if_pos (firstBad_fine l h), prn_fine l [] (by simpa using hl)]
  simp
/-! ### FlowBack -/
theorem right_f (x : S32) : payofflaw03_right.f 9 x.f0 x.f1 x.f2 = some (decide (vld x = 0)) := by
  unfold payofflaw03_right.f vld
  by_cases h0 : x.f0 < 0
  · rw [if_pos h0, if_pos h0]
    simp only [payofflaw03_right.j0, if_true]
    split <;> simp
  · rw [if_neg h0, if_neg h0]
    by_cases h1 : x.f0 > 1073741824
    · rw [if_pos h1, if_pos h1]
      simp only [payofflaw03_right.j0, if_true]
      split <;> simp
    · rw [if_neg h1, if_neg h1]
      unfold cap3
      by_cases h : x.f1.size = 3
      · have g0 := bt_range x.f1 0
        have g1 := bt_range x.f1 1
        have g2 := bt_range x.f1 2
        have hz : ((x.f1.size : Int) != 3) = false := by simp; omega
        rw [hz]
        simp only [payofflaw03_right.j0, payofflaw03_right.l0, h, wrap64]
        by_cases a0 : bt x.f1 0 < 65
        · simp [a0, show ¬ (65 ≤ bt x.f1 0) by omega]
        · by_cases a1 : bt x.f1 0 > 90
          · simp [a0, a1, show ¬ (bt x.f1 0 ≤ 90) by omega]
          · by_cases b0 : bt x.f1 1 < 65
            · simp [a0, a1, b0, show ¬ (65 ≤ bt x.f1 1) by omega]
            · by_cases b1 : bt x.f1 1 > 90
              · simp [a0, a1, b0, b1, show ¬ (bt x.f1 1 ≤ 90) by omega]
              · by_cases d0 : bt x.f1 2 < 65
                · simp [a0, a1, b0, b1, d0, show ¬ (65 ≤ bt x.f1 2) by omega]
                · by_cases d1 : bt x.f1 2 > 90
                  · simp [a0, a1, b0, b1, d0, d1, show ¬ (bt x.f1 2 ≤ 90) by omega]
                  · simp [a0, a1, b0, b1, d0, d1, show 65 ≤ bt x.f1 0 by omega, show bt x.f1 0 ≤ 90 by omega, show 65 ≤ bt x.f1 1 by omega, show bt x.f1 1 ≤ 90 by omega, show 65 ≤ bt x.f1 2 by omega, show bt x.f1 2 ≤ 90 by omega]
      · have hz : ((x.f1.size : Int) != 3) = true := by simp; omega
        rw [hz]
        simp [payofflaw03_right.j0, h]
theorem right_ge (x : S32) (k : Nat) (hk : 9 ≤ k) : payofflaw03_right.f k x.f0 x.f1 x.f2 = some (decide (vld x = 0)) := mono_le (fun k => payofflaw03_right.mono x.f0 x.f1 x.f2 k) hk (right_f x)
theorem sm_l0(a b : List S32) (hab : a = b) (hl : a.length ≤ 140737488355328) : ∀ (d n k : Nat), n + d = a.length → d < k → payofflaw03_same.l0 k a b (n : Int) = some true := by
  subst hab
  intro d
  induction d with
  | zero =>
    intro n k hn hk
    obtain ⟨k, rfl⟩ : ∃ m, k = m + 1 := ⟨k - 1, by omega⟩
    simp only [payofflaw03_same.l0]
    rw [if_neg (by omega)]
  | succ d ih =>
    intro n k hn hk
    obtain ⟨k, rfl⟩ : ∃ m, k = m + 1 := ⟨k - 1, by omega⟩
    simp only [payofflaw03_same.l0]
    rw [if_pos (by omega), if_pos (by omega), if_pos (by omega), if_neg (by rw [neS]; simp), wrap_nat (m := a.length) (by omega) hl]
    exact ih (n + 1) k (by omega) (by omega)
theorem sm_self (a : List S32) (hl : a.length ≤ 140737488355328) (k : Nat) (hk : a.length < k) : payofflaw03_same.f k a a = some true := by
  unfold payofflaw03_same.f
  rw [if_pos rfl]
  exact sm_l0 a a rfl hl a.length 0 k (by omega) hk
theorem back_end (m : List S32) (hm : ∀ x ∈ m, Fine x) (hn : m.length ≤ 25000) (k : Nat) (hk : 8 * 1048576 + 63 + 25000 < k) (l0 : List S32) (i : Int) : payofflaw03_FlowBack.j1 (k + 1) l0 m i false = some true := by
  have hl := lines_le m hm
  have hll := lines_len m
  have hz : (⟨(lines m).toArray⟩ : ByteArray).size = (lines m).length := rfl
  simp only [payofflaw03_FlowBack.j1, Bool.false_eq_true, if_false]
  rw [print_fine m hm (by omega)]
  simp only [Option.bind_some, if_true]
  rw [parse_lines ⟨(lines m).toArray⟩ (by rw [hz]; omega) m hm rfl k (by rw [hz]; omega)]
  simp only [Option.bind_some, if_true]
  rw [sm_self m (by omega) k (by omega)]
  rfl
theorem back_l0 (l : List S32) (hl : l.length ≤ 140737488355327) (hw : WfI l) : ∀ (d n k : Nat) (acc : List S32), n + d = l.length → 2 * d + 8 * 1048576 + 63 + 25002 < k → acc.length ≤ n → acc.length ≤ 25000 → (∀ x ∈ acc, Fine x) →
    payofflaw03_FlowBack.l0 k l acc (n : Int) = some true := by
  intro d
  induction d with
  | zero =>
    intro n k acc hn hk ha hb hf
    obtain ⟨k, rfl⟩ : ∃ q, k = q + 2 := ⟨k - 2, by omega⟩
    rw [payofflaw03_FlowBack.l0]
    rw [if_neg (by omega)]
    exact back_end acc hf hb k (by omega) l _
  | succ d ih =>
    intro n k acc hn hk ha hb hf
    obtain ⟨k, rfl⟩ : ∃ q, k = q + 2 := ⟨k - 2, by omega⟩
    have hlt : n < l.length := by omega
    rw [payofflaw03_FlowBack.l0]
    rw [if_pos (by omega)]
    by_cases h25 : (n : Int) < 25000
    · rw [decide_eq_true h25]
      simp only [payofflaw03_FlowBack.j1, if_true]
      rw [if_pos (by omega), if_pos (by omega), prn_rd l n hlt, right_ge _ k (by omega)]
      simp only [Option.bind_some]
      by_cases hv : vld l[n] = 0
      · rw [if_pos (by simpa using hv), if_pos (by omega), wn hlt (by omega), fine_eta]
        refine ih (n + 1) k _ (by omega) (by omega) (by simp; omega) (by simp; omega) ?_
        intro x hx
        rcases List.mem_append.1 hx with hx | hx
        · exact hf x hx
        · rw [List.mem_singleton.1 hx]
          exact ⟨hv, (hw _ (List.getElem_mem hlt)).1, (hw _ (List.getElem_mem hlt)).2⟩
      · rw [if_neg (by simpa using hv), wn hlt (by omega)]
        exact ih (n + 1) k acc (by omega) (by omega) (by omega) hb hf
    · rw [decide_eq_false h25]
      exact back_end acc hf hb k (by omega) l _
theorem FlowBack.pure (l : List S32) (hl : l.length * 32 ≤ 140737488351232) (hw : WfI l) : ∃ k, payofflaw03_FlowBack.f k l = some true := by
  obtain ⟨k, hk⟩ : ∃ k, 2 * l.length + 8 * 1048576 + 63 + 25100 < k := ⟨_, Nat.lt_succ_self _⟩
  refine ⟨k, ?_⟩
  unfold payofflaw03_FlowBack.f
  rw [heads_f _ (by omega)]
  simp only [Option.bind_some, if_true]
  exact back_l0 l (by omega) hw l.length 0 _ [] (by omega) (by omega) (by simp) (by simp) (fun x hx => by cases hx)
theorem inI_lit {n : Int} (h : (Lit.int .i64 n).wf = true) : InI n := by
  have e1 : IntKind.i64.min = -9223372036854775808 := by decide
  have e2 : IntKind.i64.max = 9223372036854775807 := by decide
  simp only [Lit.wf, e1, e2, Bool.and_eq_true, decide_eq_true_eq] at h
  exact ⟨h.1, h.2⟩
theorem FlowBack.walk (A0 : Option Addr) (c0 : Nat) (l0 : List S32) (w : World) (HT : Aside0 (ItoaTab w)) (hr0 : Kd.C k32 w A0 l0.length l0) (hc0 : l0.length ≤ c0) (hwf : WF22 l0) :
    Calls Tryd.prog 4 #[.slice A0 l0.length c0] w fun e w' => e = .returned (.bool true) ∧ Below w.heap.size w w' := by
  obtain ⟨k, hk⟩ := FlowBack.pure l0 hwf.1 (fun x hx => ⟨inI_lit (hwf.2 x hx).d0, inI_lit (hwf.2 x hx).d2⟩)
  exact payofflaw03_FlowBack.calls k A0 c0 l0 true w HT hr0 hc0 hk
end Go.Proofs.YtdfndbegifdejaaDoor.GD
