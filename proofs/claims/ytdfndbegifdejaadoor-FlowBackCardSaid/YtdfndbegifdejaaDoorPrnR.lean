/- The document's Print, as a plain law: it answers what flow.Print does. -/
import Derived.Test.YtdfndbegifdejaaDoorGDx7
namespace Go.Proofs.YtdfndbegifdejaaDoor.GD
set_option linter.unusedVariables false
set_option linter.unusedSimpArgs false
open Go.RowKit Go.Proofs.YtdfndbegifdejaaDoorW.PrintWords

theorem ba_ext {a b : ByteArray} (h : a.data.toList = b.data.toList) : a = b := by
  obtain ⟨⟨x⟩⟩ := a
  obtain ⟨⟨y⟩⟩ := b
  simp at h
  rw [h]
theorem ba_mk {a : ByteArray} {l : List UInt8} (h : a.data.toList = l) : a = ⟨l.toArray⟩ := ba_ext (by simpa using h)
def dd (u : Nat) : List UInt8 := if u = 0 then [] else Lib.decDigits u
theorem dd_step (u : Nat) (h : u ≠ 0) : dd u = dd (u / 10) ++ [UInt8.ofNat (48 + u % 10)] := by
  unfold dd
  rw [if_neg h]
  by_cases h1 : u < 10
  · rw [if_pos (by omega), Lib.decDigits_one h1, Nat.mod_eq_of_lt h1]; rfl
  · rw [if_neg (by omega), Lib.decDigits, dif_neg h1]
theorem strOfNums_one (d : Int) (h0 : 0 ≤ d) (h9 : d ≤ 9) : (strOfNums [(wrap64 (48 + d)) % 256]).data.toList = [UInt8.ofNat (48 + d.toNat)] := by
  rw [strOfNums_data]
  have : wrap64 (48 + d) % 256 = 48 + d := by unfold wrap64; omega
  rw [this]
  simp only [List.map_cons, List.map_nil]
  congr 2
  omega
theorem digits_l0 (n : Int) : ∀ (j k : Nat) (m : Int) (s : ByteArray), InI m → m.natAbs < 10 ^ j → s.size + j ≤ 100 → j < k →
    ∃ r, payoffref03_Digits.l0 k n s m = some r ∧ r.data.toList = (if n < 0 then [45] else []) ++ dd m.natAbs ++ s.data.toList := by
  intro j
  induction j with
  | zero =>
    intro k m s hm hj hs hk
    obtain ⟨k, rfl⟩ : ∃ q, k = q + 1 := ⟨k - 1, by omega⟩
    have h0 : m = 0 := by simp at hj; omega
    subst h0
    simp only [payoffref03_Digits.l0]
    rw [if_pos trivial]
    by_cases hn : n < 0
    · rw [if_pos hn, if_pos (by omega), if_pos hn]
      exact ⟨_, rfl, by simp [dd]⟩
    · rw [if_neg hn, if_neg hn]
      exact ⟨_, rfl, by simp [dd]⟩
  | succ j ih =>
    intro k m s hm hj hs hk
    obtain ⟨k, rfl⟩ : ∃ q, k = q + 1 := ⟨k - 1, by omega⟩
    have hlo := hm.lo
    have hhi := hm.hi
    by_cases h0 : m = 0
    · subst h0
      simp only [payoffref03_Digits.l0]
      rw [if_pos trivial]
      by_cases hn : n < 0
      · rw [if_pos hn, if_pos (by omega), if_pos hn]
        exact ⟨_, rfl, by simp [dd]⟩
      · rw [if_neg hn, if_neg hn]
        exact ⟨_, rfl, by simp [dd]⟩
    · have hdiv : (Int.tdiv m 10).natAbs = m.natAbs / 10 := by rw [Int.natAbs_tdiv]; rfl
      have hmod : (Int.tmod m 10).natAbs = m.natAbs % 10 := by rw [Int.natAbs_tmod]; rfl
      have hd1 : (m.natAbs / 10) < 10 ^ j := by
        rw [Nat.pow_succ] at hj; omega
      have hw : wrap64 (Int.tdiv m 10) = Int.tdiv m 10 := by unfold wrap64; omega
      have hin : InI (Int.tdiv m 10) := ⟨by omega, by omega⟩
      have hstep := dd_step m.natAbs (by omega)
      simp only [payoffref03_Digits.l0, Option.bind_some]
      rw [if_neg h0]
      by_cases hneg : Int.tmod m 10 < 0
      · rw [if_pos hneg]
        have hwn : wrap64 (-(Int.tmod m 10)) = -(Int.tmod m 10) := by unfold wrap64; omega
        have h1 := strOfNums_one (-(Int.tmod m 10)) (by omega) (by omega)
        rw [hwn, hw]
        have hsz : (strOfNums [(wrap64 (48 + -(Int.tmod m 10))) % 256]).size = 1 := by rw [strOfNums_size]; rfl
        rw [if_pos (by omega)]
        obtain ⟨r, hr, hr2⟩ := ih k (Int.tdiv m 10) (strOfNums [(wrap64 (48 + -(Int.tmod m 10))) % 256] ++ s) hin (by rw [hdiv]; exact hd1) (by rw [ByteArray.size_append, hsz]; omega) (by omega)
        refine ⟨r, hr, ?_⟩
        rw [hr2, hdiv, hstep, ByteArray.data_append, Array.toList_append, h1]
        have : (-(Int.tmod m 10)).toNat = m.natAbs % 10 := by omega
        rw [this]; simp
      · rw [if_neg hneg]
        have h1 := strOfNums_one (Int.tmod m 10) (by omega) (by omega)
        rw [hw]
        have hsz : (strOfNums [(wrap64 (48 + (Int.tmod m 10))) % 256]).size = 1 := by rw [strOfNums_size]; rfl
        rw [if_pos (by omega)]
        obtain ⟨r, hr, hr2⟩ := ih k (Int.tdiv m 10) (strOfNums [(wrap64 (48 + (Int.tmod m 10))) % 256] ++ s) hin (by rw [hdiv]; exact hd1) (by rw [ByteArray.size_append, hsz]; omega) (by omega)
        refine ⟨r, hr, ?_⟩
        rw [hr2, hdiv, hstep, ByteArray.data_append, Array.toList_append, h1]
        have : (Int.tmod m 10).toNat = m.natAbs % 10 := by omega
        rw [this]; simp
theorem digits_f (n : Int) (hn : InI n) (k : Nat) (hk : 20 < k) : payoffref03_Digits.f k n = some ⟨(Lib.itoa n).toArray⟩ := by
  unfold payoffref03_Digits.f
  have hlo := hn.lo
  have hhi := hn.hi
  by_cases h0 : n = 0
  · subst h0
    rw [if_pos rfl]
    congr 1
    exact ba_mk (by simp [Lib.itoa, Lib.decDigits_one])
  · rw [if_neg h0]
    obtain ⟨r, hr, hr2⟩ := digits_l0 n 20 k n ⟨#[]⟩ hn (by omega) (by simp [ByteArray.size]) hk
    rw [hr]
    congr 1
    refine ba_mk ?_
    rw [hr2]
    have hna : n.natAbs ≠ 0 := by omega
    by_cases hneg : n < 0
    · simp [Lib.itoa, dd, hneg, h0]
    · have : n.natAbs = n.toNat := by omega
      simp [Lib.itoa, dd, hneg, h0, this]
      omega
theorem itoa_len (n : Int) (hn : InI n) : (Lib.itoa n).length ≤ 21 := Lib.itoa_length_le n hn.lo hn.hi
theorem line_f (x : S32) (h0 : InI x.f0) (h2 : InI x.f2) (h3 : x.f1.size = 3) (k : Nat) (hk : 20 < k) : payoffref03_Line.f k x.f0 x.f1 x.f2 = some ⟨(lineL x).toArray⟩ := by
  have e0 := itoa_len x.f0 h0
  have e2 := itoa_len x.f2 h2
  have s0 : (⟨(Lib.itoa x.f0).toArray⟩ : ByteArray).size = (Lib.itoa x.f0).length := rfl
  have s2 : (⟨(Lib.itoa x.f2).toArray⟩ : ByteArray).size = (Lib.itoa x.f2).length := rfl
  have s1 : (⟨#[32]⟩ : ByteArray).size = 1 := rfl
  unfold payoffref03_Line.f
  rw [digits_f _ h0 k hk, digits_f _ h2 k hk]
  simp only [Option.bind_some, ByteArray.size_append, s0, s2, s1, h3]
  rw [if_pos (by omega), if_pos (by omega), if_pos (by omega), if_pos (by omega), if_pos (by omega)]
  exact congrArg some (ba_mk (by simp [lineL]))
theorem refcur_f (s : ByteArray) : payoffref03_Currency.f 9 s = some (cap3 s) := by
  unfold payoffref03_Currency.f cap3
  by_cases h : s.size = 3
  · have h0 := bt_range s 0
    have h1 := bt_range s 1
    have h2 := bt_range s 2
    rw [if_pos (by omega)]
    simp only [payoffref03_Currency.l0, h, wrap64]
    by_cases a0 : bt s 0 < 65
    · simp [a0, show ¬ (65 ≤ bt s 0) by omega]
    · by_cases a1 : bt s 0 > 90
      · simp [a0, a1, show ¬ (bt s 0 ≤ 90) by omega]
      · by_cases b0 : bt s 1 < 65
        · simp [a0, a1, b0, show ¬ (65 ≤ bt s 1) by omega]
        · by_cases b1 : bt s 1 > 90
          · simp [a0, a1, b0, b1, show ¬ (bt s 1 ≤ 90) by omega]
          · by_cases d0 : bt s 2 < 65
            · simp [a0, a1, b0, b1, d0, show ¬ (65 ≤ bt s 2) by omega]
            · by_cases d1 : bt s 2 > 90
              · simp [a0, a1, b0, b1, d0, d1, show ¬ (bt s 2 ≤ 90) by omega]
              · simp [a0, a1, b0, b1, d0, d1, show 65 ≤ bt s 0 by omega, show bt s 0 ≤ 90 by omega, show 65 ≤ bt s 1 by omega, show bt s 1 ≤ 90 by omega, show 65 ≤ bt s 2 by omega, show bt s 2 ≤ 90 by omega]
  · rw [if_neg (by omega)]
    simp [h]
theorem mono_le {α : Type} {f : Nat → Option α} (h : ∀ k, LeO (f k) (f (k + 1))) : ∀ {a b : Nat}, a ≤ b → ∀ {r}, f a = some r → f b = some r := by
  intro a b hab r hr
  obtain ⟨d, rfl⟩ : ∃ d, b = a + d := ⟨b - a, by omega⟩
  clear hab
  induction d with
  | zero => exact hr
  | succ d ih => exact h _ _ ih
theorem refvalid_f (x : S32) (k : Nat) (hk : 9 ≤ k) : payoffref03_Valid.f k x.f0 x.f1 x.f2 = some (vld x) := by
  refine mono_le (fun k => payoffref03_Valid.mono x.f0 x.f1 x.f2 k) hk ?_
  unfold payoffref03_Valid.f vld
  rw [refcur_f]
  simp only [Option.bind_some]
  split
  · split
    · rfl
    · split <;> rfl
  · rfl
theorem wn {n m : Nat} (h : n < m) (hm : m ≤ 140737488355328) : wrap64 ((n : Int) + 1) = ((n + 1 : Nat) : Int) := by unfold wrap64; omega
theorem bytesOf_mk (l : List UInt8) : bytesOf ⟨l.toArray⟩ = l.map fun b => (b.toNat : Int) := by simp [bytesOf]
theorem strOf_map (l : List UInt8) : strOfNums (l.map fun b => (b.toNat : Int)) = ⟨l.toArray⟩ := by
  refine ba_mk ?_
  rw [strOfNums_data, List.map_map]
  conv => rhs; rw [← List.map_id l]
  apply List.map_congr_left
  intro b _
  simp
theorem refPrint_l1 (l : List S32) (hl : l.length ≤ 140737488355327) (hw : WfI l) (hz : firstBad l = 0) : ∀ (d n k : Nat) (acc : List UInt8), n + d = l.length → d + 21 < k → acc.length ≤ 1048576 →
    payoffref03_Print.l1 k l (acc.map fun b => (b.toNat : Int)) (n : Int) = some (match prn acc (l.drop n) with | some b => (⟨b.toArray⟩, 0) | none => (⟨#[]⟩, 6)) := by
  intro d
  induction d with
  | zero =>
    intro n k acc hn hk hacc
    obtain ⟨k, rfl⟩ : ∃ q, k = q + 1 := ⟨k - 1, by omega⟩
    simp only [payoffref03_Print.l1]
    rw [if_neg (by omega), List.drop_of_length_le (by omega), strOf_map]
    rfl
  | succ d ih =>
    intro n k acc hn hk hacc
    obtain ⟨k, rfl⟩ : ∃ q, k = q + 1 := ⟨k - 1, by omega⟩
    have hlt : n < l.length := by omega
    have hx := List.getElem_mem hlt
    simp only [payoffref03_Print.l1]
    rw [if_pos (by omega), if_pos (by omega), prn_rd l n hlt, line_f l[n] (hw _ hx).1 (hw _ hx).2 (vld_size (firstBad_zero l hz _ hx)) k (by omega)]
    simp only [Option.bind_some]
    have hL : (lineL l[n]).length ≤ 48 := by
      have e0 := itoa_len _ (hw _ hx).1
      have e2 := itoa_len _ (hw _ hx).2
      have e3 : l[n].f1.data.toList.length = 3 := vld_size (firstBad_zero l hz _ hx)
      unfold lineL
      simp only [List.length_append, List.length_cons, List.length_nil, e3]; omega
    have hsz : (⟨(lineL l[n]).toArray⟩ : ByteArray).size = (lineL l[n]).length := rfl
    rw [if_pos (by rw [List.length_map, hsz]; omega), bytesOf_mk, ← List.map_append, prn_drop acc l n hlt, List.length_map]
    by_cases hbig : (acc ++ lineL l[n]).length ≤ 1048576
    · rw [if_neg (by omega), if_pos hbig, wn hlt (by omega)]
      exact ih (n + 1) k _ (by omega) (by omega) hbig
    · rw [if_pos (by omega), if_neg hbig]
theorem refPrint_l0 (l : List S32) (hl : l.length ≤ 140737488355327) (hw : WfI l) : ∀ (d n k : Nat), n + d = l.length → d + l.length + 24 < k → firstBad (l.drop n) = firstBad l →
    payoffref03_Print.l0 k l (n : Int) = some (printP l) := by
  intro d
  induction d with
  | zero =>
    intro n k hn hk hz
    obtain ⟨k, rfl⟩ : ∃ q, k = q + 1 := ⟨k - 1, by omega⟩
    rw [List.drop_of_length_le (by omega)] at hz
    have hz : firstBad l = 0 := hz.symm
    simp only [payoffref03_Print.l0]
    rw [if_neg (by omega)]
    have := refPrint_l1 l hl hw hz l.length 0 k [] (by omega) (by omega) (by simp)
    simp only [List.map_nil, List.drop_zero] at this
    refine (show payoffref03_Print.l1 k l [] 0 = _ from this).trans ?_
    unfold printP
    rw [if_pos hz]
    rfl
  | succ d ih =>
    intro n k hn hk hz
    obtain ⟨k, rfl⟩ : ∃ q, k = q + 1 := ⟨k - 1, by omega⟩
    have hlt : n < l.length := by omega
    simp only [payoffref03_Print.l0]
    rw [if_pos (by omega), if_pos (by omega), prn_rd l n hlt, refvalid_f _ k (by omega)]
    simp only [Option.bind_some]
    rw [firstBad_drop l n hlt] at hz
    by_cases hv : vld l[n] = 0
    · rw [if_pos hv] at hz
      rw [if_pos hv, wn hlt (by omega)]
      exact ih (n + 1) k (by omega) (by omega) hz
    · rw [if_neg hv] at hz
      rw [if_neg hv]
      unfold printP
      rw [if_neg (by rw [← hz]; exact hv), hz]
theorem refPrint_f (l : List S32) (hl : l.length ≤ 140737488355327) (hw : WfI l) (k : Nat) (hk : 2 * l.length + 24 < k) : payoffref03_Print.f k l = some (printP l) :=
  refPrint_l0 l hl hw l.length 0 k (by omega) (by omega) (by simp)
end Go.Proofs.YtdfndbegifdejaaDoor.GD
