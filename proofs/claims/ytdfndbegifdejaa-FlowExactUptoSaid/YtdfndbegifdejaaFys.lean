import Derived.Test.YtdfndbegifdejaaFyr
import Derived.Lib.ItoaLen
import Derived.Deep.DeepCutAuto
section
namespace Go.Proofs.Ytdfndbegifdejaa.PFlowExact
set_option linter.unusedVariables false
set_option linter.unusedSimpArgs false
open Go.RowKit Go.Proofs.YtdfndbegifdejaaW.PrintWords
structure InI (n : Int) : Prop where
  lo : -9223372036854775808 ≤ n
  hi : n ≤ 9223372036854775807
def WfI (l : List S32) : Prop := ∀ x ∈ l, InI x.f0 ∧ InI x.f2
def cap3 (s : ByteArray) : Bool := decide (s.size = 3) && decide (65 ≤ bt s 0) && decide (bt s 0 ≤ 90) && decide (65 ≤ bt s 1) && decide (bt s 1 ≤ 90) && decide (65 ≤ bt s 2) && decide (bt s 2 ≤ 90)
def vld (x : S32) : Int := if cap3 x.f1 = true then (if x.f0 < 0 then 2 else if x.f0 > 1073741824 then 2 else 0) else 1
def lineL (x : S32) : List UInt8 := Lib.itoa x.f0 ++ [32] ++ x.f1.data.toList ++ [32] ++ Lib.itoa x.f2 ++ [10]
theorem ba_ext {a b : ByteArray} (h : a.data.toList = b.data.toList) : a = b := by
 obtain ⟨⟨x⟩⟩ := a
 obtain ⟨⟨y⟩⟩ := b
 simp at h
 rw [h]
theorem ba_mk {a : ByteArray} {l : List UInt8} (h : a.data.toList = l) : a = ⟨l.toArray⟩ := ba_ext (by simpa using h)
theorem itoa_len (n : Int) (hn : InI n) : (Lib.itoa n).length ≤ 21 := Lib.itoa_length_le n hn.lo hn.hi
theorem mono_le {α : Type} {f : Nat → Option α} (h : ∀ k, LeO (f k) (f (k + 1))) : ∀ {a b : Nat}, a ≤ b → ∀ {r}, f a = some r → f b = some r := by
 intro a b hab r hr
 obtain ⟨d, rfl⟩ : ∃ d, b = a + d := ⟨b - a, by omega⟩
 clear hab
 induction d with
 | zero => exact hr
 | succ d ih => exact h _ _ ih
theorem wn {n m : Nat} (h : n < m) (hm : m ≤ 140737488355328) : wrap64 ((n : Int) + 1) = ((n + 1 : Nat) : Int) := by unfold wrap64; omega
def dd (u : Nat) : List UInt8 := if u = 0 then [] else Lib.decDigits u
theorem dd_step (u : Nat) (h : u ≠ 0) : dd u = dd (u / 10) ++ [UInt8.ofNat (48 + u % 10)] := by
 unfold dd
 rw [if_neg h]
 by_cases h1 : u < 10
 ·rw [if_pos (by omega), Lib.decDigits_one h1, Nat.mod_eq_of_lt h1]; rfl
 ·rw [if_neg (by omega), Lib.decDigits, dif_neg h1]
theorem strOfNums_one (d : Int) (h0 : 0 ≤ d) (h9 : d ≤ 9) : (strOfNums [(wrap64 (48 + d)) % 256]).data.toList = [UInt8.ofNat (48 + d.toNat)] := by
 rw [strOfNums_data]
 have : wrap64 (48 + d) % 256 = 48 + d := by unfold wrap64; omega
 rw [this]
 simp only [List.map_cons, List.map_nil]
 congr 2
 omega
theorem digits_l0 (n : Int) : ∀ (j k : Nat) (m : Int) (s : ByteArray), InI m → m.natAbs < 10 ^ j → s.size + j ≤ 100 → j < k →
  ∃ r, payoffref03_Digits.l0 k n s m = some r ∧ r.data.toList = (if n < 0 then [45] else []) ++ dd m.natAbs ++ s.data.toList := by
 intro j
 induction j with
 | zero =>
  intro k m s hm hj hs hk
  obtain ⟨k, rfl⟩ : ∃ q, k = q + 1 := ⟨k - 1, by omega⟩
  have h0 : m = 0 := by simp at hj; omega
  subst h0
  simp only [payoffref03_Digits.l0]
  rw [if_pos trivial]
  by_cases hn : n < 0
  ·rw [if_pos hn, if_pos (by omega), if_pos hn]
   exact ⟨_, rfl, by simp [dd]⟩
  ·rw [if_neg hn, if_neg hn]
   exact ⟨_, rfl, by simp [dd]⟩
 | succ j ih =>
  intro k m s hm hj hs hk
  obtain ⟨k, rfl⟩ : ∃ q, k = q + 1 := ⟨k - 1, by omega⟩
  have hlo := hm.lo
  have hhi := hm.hi
  by_cases h0 : m = 0
  ·subst h0
   simp only [payoffref03_Digits.l0]
   rw [if_pos trivial]
   by_cases hn : n < 0
   ·rw [if_pos hn, if_pos (by omega), if_pos hn]
    exact ⟨_, rfl, by simp [dd]⟩
   ·rw [if_neg hn, if_neg hn]
    exact ⟨_, rfl, by simp [dd]⟩
  ·have hdiv : (Int.tdiv m 10).natAbs = m.natAbs / 10 := by rw [Int.natAbs_tdiv]; rfl
   have hmod : (Int.tmod m 10).natAbs = m.natAbs % 10 := by rw [Int.natAbs_tmod]; rfl
   have hd1 : (m.natAbs / 10) < 10 ^ j := by
    rw [Nat.pow_succ] at hj; omega
   have hw : wrap64 (Int.tdiv m 10) = Int.tdiv m 10 := by unfold wrap64; omega
   have hin : InI (Int.tdiv m 10) := ⟨by omega, by omega⟩
   have hstep := dd_step m.natAbs (by omega)
   simp only [payoffref03_Digits.l0, Option.bind_some]
   rw [if_neg h0]
   by_cases hneg : Int.tmod m 10 < 0
   ·rw [if_pos hneg]
    have hwn : wrap64 (-(Int.tmod m 10)) = -(Int.tmod m 10) := by unfold wrap64; omega
    have h1 := strOfNums_one (-(Int.tmod m 10)) (by omega) (by omega)
    rw [hwn, hw]
    have hsz : (strOfNums [(wrap64 (48 + -(Int.tmod m 10))) % 256]).size = 1 := by rw [strOfNums_size]; rfl
    rw [if_pos (by omega)]
    obtain ⟨r, hr, hr2⟩ := ih k (Int.tdiv m 10) (strOfNums [(wrap64 (48 + -(Int.tmod m 10))) % 256] ++ s) hin (by rw [hdiv]; exact hd1) (by rw [ByteArray.size_append, hsz]; omega) (by omega)
    refine ⟨r, hr, ?_⟩
    rw [hr2, hdiv, hstep, ByteArray.data_append, Array.toList_append, h1]
    have : (-(Int.tmod m 10)).toNat = m.natAbs % 10 := by omega
    rw [this]; simp
   ·rw [if_neg hneg]
    have h1 := strOfNums_one (Int.tmod m 10) (by omega) (by omega)
    rw [hw]
    have hsz : (strOfNums [(wrap64 (48 + (Int.tmod m 10))) % 256]).size = 1 := by rw [strOfNums_size]; rfl
    rw [if_pos (by omega)]
    obtain ⟨r, hr, hr2⟩ := ih k (Int.tdiv m 10) (strOfNums [(wrap64 (48 + (Int.tmod m 10))) % 256] ++ s) hin (by rw [hdiv]; exact hd1) (by rw [ByteArray.size_append, hsz]; omega) (by omega)
    refine ⟨r, hr, ?_⟩
    rw [hr2, hdiv, hstep, ByteArray.data_append, Array.toList_append, h1]
    have : (Int.tmod m 10).toNat = m.natAbs % 10 := by omega
    rw [this]; simp
theorem digits_f (n : Int) (hn : InI n) (k : Nat) (hk : 20 < k) : payoffref03_Digits.f k n = some ⟨(Lib.itoa n).toArray⟩ := by
 unfold payoffref03_Digits.f
 have hlo := hn.lo
 have hhi := hn.hi
 by_cases h0 : n = 0
 ·subst h0
  rw [if_pos rfl]
  congr 1
  exact ba_mk (by simp [Lib.itoa, Lib.decDigits_one])
 ·rw [if_neg h0]
  obtain ⟨r, hr, hr2⟩ := digits_l0 n 20 k n ⟨#[]⟩ hn (by omega) (by simp [ByteArray.size]) hk
  rw [hr]
  congr 1
  refine ba_mk ?_
  rw [hr2]
  have hna : n.natAbs ≠ 0 := by omega
  by_cases hneg : n < 0
  ·simp [Lib.itoa, dd, hneg, h0]
  ·have : n.natAbs = n.toNat := by omega
   simp [Lib.itoa, dd, hneg, h0, this]
   omega
theorem line_f (x : S32) (h0 : InI x.f0) (h2 : InI x.f2) (h3 : x.f1.size = 3) (k : Nat) (hk : 20 < k) : payoffref03_Line.f k x.f0 x.f1 x.f2 = some ⟨(lineL x).toArray⟩ := by
 have e0 := itoa_len x.f0 h0
 have e2 := itoa_len x.f2 h2
 have s0 : (⟨(Lib.itoa x.f0).toArray⟩ : ByteArray).size = (Lib.itoa x.f0).length := rfl
 have s2 : (⟨(Lib.itoa x.f2).toArray⟩ : ByteArray).size = (Lib.itoa x.f2).length := rfl
 have s1 : (⟨#[32]⟩ : ByteArray).size = 1 := rfl
 unfold payoffref03_Line.f
 rw [digits_f _ h0 k hk, digits_f _ h2 k hk]
 simp only [Option.bind_some, ByteArray.size_append, s0, s2, s1, h3]
 rw [if_pos (by omega), if_pos (by omega), if_pos (by omega), if_pos (by omega), if_pos (by omega)]
 exact congrArg some (ba_mk (by simp [lineL]))
theorem refcur_f (s : ByteArray) : payoffref03_Currency.f 9 s = some (cap3 s) := by
 unfold payoffref03_Currency.f cap3
 by_cases h : s.size = 3
 ·have h0 := bt_range s 0
  have h1 := bt_range s 1
  have h2 := bt_range s 2
  rw [if_pos (by omega)]
  simp only [payoffref03_Currency.l0, h, wrap64]
  by_cases a0 : bt s 0 < 65
  ·simp [a0, show ¬ (65 ≤ bt s 0) by omega]
  ·by_cases a1 : bt s 0 > 90
   ·simp [a0, a1, show ¬ (bt s 0 ≤ 90) by omega]
   ·by_cases b0 : bt s 1 < 65
    ·simp [a0, a1, b0, show ¬ (65 ≤ bt s 1) by omega]
    ·by_cases b1 : bt s 1 > 90
     ·simp [a0, a1, b0, b1, show ¬ (bt s 1 ≤ 90) by omega]
     ·by_cases d0 : bt s 2 < 65
      ·simp [a0, a1, b0, b1, d0, show ¬ (65 ≤ bt s 2) by omega]
      ·by_cases d1 : bt s 2 > 90
       ·simp [a0, a1, b0, b1, d0, d1, show ¬ (bt s 2 ≤ 90) by omega]
       ·simp [a0, a1, b0, b1, d0, d1, show 65 ≤ bt s 0 by omega, show bt s 0 ≤ 90 by omega, show 65 ≤ bt s 1 by omega, show bt s 1 ≤ 90 by omega, show 65 ≤ bt s 2 by omega, show bt s 2 ≤ 90 by omega]
 ·rw [if_neg (by omega)]
  simp [h]
theorem refvalid_f (x : S32) (k : Nat) (hk : 9 ≤ k) : payoffref03_Valid.f k x.f0 x.f1 x.f2 = some (vld x) := by
 refine mono_le (fun k => payoffref03_Valid.mono x.f0 x.f1 x.f2 k) hk ?_
 unfold payoffref03_Valid.f vld
 rw [refcur_f]
 simp only [Option.bind_some]
 split
 ·split
  ·rfl
  ·split <;> rfl
 ·rfl
theorem cap3_size {s : ByteArray} (h : cap3 s = true) : s.size = 3 := by
 unfold cap3 at h
 simp only [Bool.and_eq_true, decide_eq_true_eq] at h
 exact h.1.1.1.1.1.1
theorem vld_size {x : S32} (h : vld x = 0) : x.f1.size = 3 := by
 unfold vld at h
 split at h
 ·exact cap3_size (by assumption)
 ·omega
theorem lineL_len (x : S32) (h0 : InI x.f0) (h2 : InI x.f2) (h3 : x.f1.size = 3) : (⟨(lineL x).toArray⟩ : ByteArray).size ≤ 48 := by
 have e0 := itoa_len x.f0 h0
 have e2 := itoa_len x.f2 h2
 have h4 : x.f1.data.toList.length = 3 := by rw [Array.length_toList]; exact h3
 show (lineL x).toArray.size ≤ 48
 simp [lineL]
 omega
theorem rdT (l : List S32) (n : Nat) (h : n < l.length) : rd_T32 l (n : Int) = l[n] := by
 unfold rd_T32
 simp [h]
theorem refPrint_l1 (l : List S32) (hl : l.length ≤ 140737488355327) (hw : WfI l) (hz : ∀ x ∈ l, vld x = 0) : ∀ (d n k : Nat) (acc : List Int), n + d = l.length → d + 21 < k → acc.length ≤ 1048576 →
  ∃ r, payoffref03_Print.l1 k l acc (n : Int) = some r := by
 intro d
 induction d with
 | zero =>
  intro n k acc hn hk ha
  obtain ⟨k, rfl⟩ : ∃ q, k = q + 1 := ⟨k - 1, by omega⟩
  simp only [payoffref03_Print.l1]
  rw [if_neg (by omega)]
  exact ⟨_, rfl⟩
 | succ d ih =>
  intro n k acc hn hk ha
  obtain ⟨k, rfl⟩ : ∃ q, k = q + 1 := ⟨k - 1, by omega⟩
  have hlt : n < l.length := by omega
  have hm : l[n] ∈ l := List.getElem_mem _
  have h3 := vld_size (hz _ hm)
  have hs := lineL_len l[n] (hw _ hm).1 (hw _ hm).2 h3
  simp only [payoffref03_Print.l1]
  rw [if_pos (by omega), if_pos (by omega), rdT l n hlt, line_f l[n] (hw _ hm).1 (hw _ hm).2 h3 k (by omega)]
  simp only [Option.bind_some]
  rw [if_pos (by omega)]
  split
  ·exact ⟨_, rfl⟩
  ·rename_i hle
   rw [wn hlt (by omega)]
   exact ih (n + 1) k _ (by omega) (by omega) (by omega)
theorem refPrint_l0 (l : List S32) (hl : l.length ≤ 140737488355327) (hw : WfI l) : ∀ (d n k : Nat), n + d = l.length → d + l.length + 24 < k → (∀ j (h : j < l.length), j < n → vld l[j] = 0) →
  ∃ r, payoffref03_Print.l0 k l (n : Int) = some r := by
 intro d
 induction d with
 | zero =>
  intro n k hn hk hz
  obtain ⟨k, rfl⟩ : ∃ q, k = q + 1 := ⟨k - 1, by omega⟩
  simp only [payoffref03_Print.l0]
  rw [if_neg (by omega)]
  exact refPrint_l1 l hl hw (fun x hx => by obtain ⟨j, hj, rfl⟩ := List.getElem_of_mem hx; exact hz j hj (by omega)) l.length 0 k [] (by omega) (by omega) (by simp)
 | succ d ih =>
  intro n k hn hk hz
  obtain ⟨k, rfl⟩ : ∃ q, k = q + 1 := ⟨k - 1, by omega⟩
  have hlt : n < l.length := by omega
  simp only [payoffref03_Print.l0]
  rw [if_pos (by omega), if_pos (by omega), rdT l n hlt, refvalid_f l[n] k (by omega)]
  simp only [Option.bind_some]
  split
  ·rename_i hv
   rw [wn hlt (by omega)]
   refine ih (n + 1) k (by omega) (by omega) (fun j h hj => ?_)
   rcases Nat.lt_or_ge j n with q | q
   ·exact hz j h q
   ·obtain rfl : j = n := by omega
    exact hv
  ·exact ⟨_, rfl⟩
theorem refPrint_some (l : List S32) (hl : l.length ≤ 140737488355327) (hw : WfI l) : ∃ k r1 r2, payoffref03_Print.f k l = some (r1, r2) := by
 obtain ⟨⟨r1, r2⟩, h⟩ := refPrint_l0 l hl hw l.length 0 (2 * l.length + 25) (by omega) (by omega) (fun j h hj => by omega)
 exact ⟨_, r1, r2, h⟩
end Go.Proofs.Ytdfndbegifdejaa.PFlowExact
end
section
namespace Go.Proofs.Ytdfndbegifdejaa.GParses
set_option linter.unusedVariables false
open Go.RowKit Go.Proofs.YtdfndbegifdejaaW.PrintWords
theorem parse_both (s : ByteArray) : ∃ k l q e, flow_Parse.f k s = some (l, q, e) ∧ payoffref03_Parse.f k s = some (l, q, e) ∧ l.length ≤ 1048576 := by
 refine ⟨9 * s.size + 70, ?_⟩
 unfold flow_Parse.f payoffref03_Parse.f
 by_cases h : (s.size : Int) > 1048576
 ·rw [if_pos h, if_pos h]
  exact ⟨_, _, _, rfl, rfl, by simp⟩
 ·rw [if_neg h, if_neg h]
  obtain ⟨l, q, e, h1, h2, hl⟩ := parse_same s (by omega) s.size 0 (9 * s.size + 70) (9 * s.size + 70) [] (by omega) (by simp) (by omega) (by omega)
  rw [show ((0 : Nat) : Int) = 0 from rfl] at h1 h2
  exact ⟨l, q, e, h1, h2, by omega⟩
end Go.Proofs.Ytdfndbegifdejaa.GParses
namespace Go.Proofs.Ytdfndbegifdejaa.PFlowExact
set_option linter.unusedVariables false
open Go.RowKit Go.Proofs.YtdfndbegifdejaaW.PrintWords
def cvS (x : GParses.S32) : S32 := ⟨x.f0, x.f1, x.f2⟩
theorem bridge_R {w : World} {base : Nat} {ok : Nat → Prop} {v : Value} {l : List GParses.S32} (h : Kd.R GParses.k32 32 w base ok v l) : Kd.R k32 32 w base ok v (l.map cvS) := by
 obtain ⟨h0, inner, ho, hr1, hr2⟩ := h
 refine ⟨h0, inner, by rw [List.length_map]; exact ho, by rw [List.length_map]; exact hr1, fun j p hj => ?_⟩
 rw [List.getElem?_map] at hj
 obtain ⟨q, hq, rfl⟩ := Option.map_eq_some_iff.1 hj
 exact hr2 j q hq
theorem parseP.calls (s : ByteArray) (l : List GParses.S32) (q e : Int) (k : Nat) (h : GParses.flow_Parse.f k s = some (l, q, e)) (w : World) :
  Calls Try.prog 20 #[.string s] w fun en w' => ∃ v : Value, en = .returned (.tuple #[v, .int .i64 q, .int .i64 e]) ∧ Kd.R k32 32 w' w.heap.size (fun _ => True) v (l.map cvS) ∧ Below w.heap.size w w' := by
 refine (GParses.flow_Parse.calls k s l q e w h).mono ?_
 rintro en w' ⟨v, rfl, hr, hb⟩
 exact ⟨v, rfl, bridge_R hr, hb⟩
theorem parseR.calls (s : ByteArray) (l : List GParses.S32) (q e : Int) (k : Nat) (h : GParses.payoffref03_Parse.f k s = some (l, q, e)) (w : World) :
  Calls Try.prog 21 #[.string s] w fun en w' => ∃ v : Value, en = .returned (.tuple #[v, .int .i64 q, .int .i64 e]) ∧ Kd.R k32 32 w' w.heap.size (fun _ => True) v (l.map cvS) ∧ Below w.heap.size w w' := by
 refine (GParses.payoffref03_Parse.calls k s l q e w h).mono ?_
 rintro en w' ⟨v, rfl, hr, hb⟩
 exact ⟨v, rfl, bridge_R hr, hb⟩
theorem parseL.calls (s : ByteArray) (l : List GParses.S32) (q e : Int) (k : Nat) (h : GParses.flow_Parse.f k s = some (l, q, e)) (w : World) (L : List S32) (hL : L = l.map cvS) :
  Calls Try.prog 20 #[.string s] w fun en w' => ∃ v : Value, en = .returned (.tuple #[v, .int .i64 q, .int .i64 e]) ∧ Kd.R k32 32 w' w.heap.size (fun _ => True) v L ∧ Below w.heap.size w w' := by
 rw [hL]; exact parseP.calls s l q e k h w
theorem parseRL.calls (s : ByteArray) (l : List GParses.S32) (q e : Int) (k : Nat) (h : GParses.payoffref03_Parse.f k s = some (l, q, e)) (w : World) (L : List S32) (hL : L = l.map cvS) :
  Calls Try.prog 21 #[.string s] w fun en w' => ∃ v : Value, en = .returned (.tuple #[v, .int .i64 q, .int .i64 e]) ∧ Kd.R k32 32 w' w.heap.size (fun _ => True) v L ∧ Below w.heap.size w w' := by
 rw [hL]; exact parseR.calls s l q e k h w
end Go.Proofs.Ytdfndbegifdejaa.PFlowExact
end
section
namespace Go.Proofs.Ytdfndbegifdejaa.PFlowExact
set_option linter.unusedVariables false
set_option linter.unusedSimpArgs false
open Go.RowKit Go.Proofs.YtdfndbegifdejaaW.PrintWords Go.Proofs.YtdfndbegifdejaaW.PrintLast Go.Proofs.YtdfndbegifdejaaW.PrintMore Go.Proofs.YtdfndbegifdejaaMine
attribute [local go_sem] max2_int min2_int max_two min_two max_three min_three max_four min_four
theorem leo_uniq {α : Type} {f : Nat → Option α} (h : ∀ k, LeO (f k) (f (k + 1))) {a b : Nat} {r s : α} (h1 : f a = some r) (h2 : f b = some s) : r = s := by
 rcases Nat.le_total a b with q | q
 ·have := mono_le h q h1; rw [this] at h2; exact Option.some.inj h2
 ·have := mono_le h q h2; rw [this] at h1; exact (Option.some.inj h1).symm
def cutN (n : Int) (l : List S32) : Nat := if 0 < n ∧ 0 < l.length then n.toNat % (l.length + 1) else 0
theorem cutN_le (n : Int) (l : List S32) : cutN n l ≤ l.length := by
 unfold cutN
 split
 ·have := Nat.mod_lt n.toNat (show 0 < l.length + 1 by omega)
  omega
 ·omega
def Ans (kd n : Int) (l0 : List S32) (f : List S32) (t : List S62) : Prop :=
 if kd = 1 then t = [] ∧ ∃ k g, payoffref03_Net.f k l0 = some (f, g)
 else if kd = 2 then f = [] ∧ ∃ k g, payoffref03_Totals.f k l0 = some (t, g)
 else if kd = 3 then t = [] ∧ ∃ k g, payoffref03_Merge.f k [l0.take (cutN n l0), l0.drop (cutN n l0)] = some (f, g)
 else if kd = 4 then t = [] ∧ f = upto_ n l0
 else t = [] ∧ ∃ k s e k' l q g, payoffref03_Print.f k l0 = some (s, e) ∧ GParses.payoffref03_Parse.f k' s = some (l, q, g) ∧ f = l.map cvS
theorem Ans.uniq {kd n : Int} {l0 f f' : List S32} {t t' : List S62} (h : Ans kd n l0 f t) (h' : Ans kd n l0 f' t') : f = f' ∧ t = t' := by
 unfold Ans at h h'
 split at h
 ·rename_i h1
  rw [if_pos h1] at h'
  obtain ⟨rfl, k, g, h⟩ := h
  obtain ⟨rfl, k', g', h'⟩ := h'
  have := leo_uniq (payoffref03_Net.mono l0) h h'
  exact ⟨congrArg Prod.fst this, rfl⟩
 ·rename_i h1
  rw [if_neg h1] at h'
  split at h
  ·rename_i h2
   rw [if_pos h2] at h'
   obtain ⟨rfl, k, g, h⟩ := h
   obtain ⟨rfl, k', g', h'⟩ := h'
   have := leo_uniq (payoffref03_Totals.mono l0) h h'
   exact ⟨rfl, congrArg Prod.fst this⟩
  ·rename_i h2
   rw [if_neg h2] at h'
   split at h
   ·rename_i h3
    rw [if_pos h3] at h'
    obtain ⟨rfl, k, g, h⟩ := h
    obtain ⟨rfl, k', g', h'⟩ := h'
    have := leo_uniq (payoffref03_Merge.mono _) h h'
    exact ⟨congrArg Prod.fst this, rfl⟩
   ·rename_i h3
    rw [if_neg h3] at h'
    split at h
    ·rename_i h4
     rw [if_pos h4] at h'
     exact ⟨h.2.trans h'.2.symm, h.1.trans h'.1.symm⟩
    ·rename_i h4
     rw [if_neg h4] at h'
     obtain ⟨rfl, k, s, e, k2, l, q, g, h5, h6, rfl⟩ := h
     obtain ⟨rfl, k', s', e', k2', l', q', g', h5', h6', rfl⟩ := h'
     have e1 := leo_uniq (payoffref03_Print.mono l0) h5 h5'
     injection e1 with e1 e2
     subst e1
     have e3 := leo_uniq (GParses.payoffref03_Parse.mono s) h6 h6'
     injection e3 with e3 e4
     subst e3
     exact ⟨rfl, rfl⟩
structure AnsOut (w w' : World) (v1 v2 : Value) (f : List S32) (t : List S62) : Prop where
  rf : Kd.R k32 32 w' w.heap.size (fun _ => True) v1 f
  rt : Kd.R k62 62 w' w.heap.size (fun _ => True) v2 t
  lf : f.length ≤ 1048576
  lt : t.length ≤ 1048576
  hb : Below w.heap.size w w'
theorem wfA_ofP {l : List S32} (h : WfP l) : WfA l := fun x hx => ⟨(h x hx).1.1, (h x hx).2⟩
theorem wfI_ofP {l : List S32} (h : WfP l) : WfI l := fun x hx => by
 have h1 := (h x hx).1.2
 have h2 := (h x hx).2
 simp only [Lit.wf, Bool.and_eq_true, decide_eq_true_eq] at h1 h2
 exact ⟨⟨h1.1, h1.2⟩, ⟨h2.1, h2.2⟩⟩
set_option maxHeartbeats 8000000 in
set_option maxRecDepth 100000 in
theorem answer.net (n : Int) (A0 : Option Addr) (c0 : Nat) (l0 : List S32) (w : World) (hr0 : Kd.C k32 w A0 l0.length l0) (hc0 : l0.length ≤ c0) (hsz : l0.length ≤ 1048576) (hwf : WfP l0) :
  Calls Try.prog 30 #[.agg #[.int .i64 1, .slice A0 l0.length c0, .int .i64 n]] w fun e w' => ∃ v1 v2 f t, e = .returned (.tuple #[v1, v2, .bool true]) ∧ AnsOut w w' v1 v2 f t ∧ Ans 1 n l0 f t := by
 have HR0 := ak hr0
 have HC0 := ak hc0
 have HSZ := ak hsz
 have HWF := ak hwf
 have HB := ak (Below.refl w.heap.size w)
 clear hr0
 have hu55 := Try.underlying55
 go_enter Try.func30, Try.ntmps30
 go_wp2_with (first | ((with_reducible refine gate_dst (N := 1) rfl ?_); (try (refine gate_guard (by rfl) ?_; dsimp only)); refine box_event ?hg (N := 1) ?hd (cs := #[.int .i64 1, .slice A0 l0.length c0, .int .i64 n]) (t := 55) ?hr ?_; (case hd => rfl); (case hg => rfl); (case hr => first | (go_simp; done) | (go_simp; rfl)); intro g1 hg wv1_ hbox hb; have BK1 := ak (hbox); have ORD := ak ((show w.heap.size ≤ g1 by rw [hg]; exact below_size HB.out)); replace HB := ak (below_step HB.out hb); clear hb hbox hg) | ((with_reducible refine gate_dst (N := 28) rfl ?_); (try (refine gate_guard (by rfl) ?_; dsimp only)); refine ld_event rfl rfl (by first | rfl | (go_simp; done) | (go_simp; rfl)) Try.underlying3 trivial (.int .i64 1) ((blk_cell BK1.out 0).trans rfl) ?_) | ((with_reducible refine gate_dst (N := 33) rfl ?_); (try (refine gate_guard (by rfl) ?_; dsimp only)); refine ld_event rfl rfl (by first | rfl | (go_simp; done) | (go_simp; rfl)) Try.underlying22 trivial (.slice A0 l0.length c0) ((blk_cell BK1.out 1).trans rfl) ?_) | ((with_reducible refine gate_dst (N := 39) rfl ?_); (try (refine gate_guard (by rfl) ?_; dsimp only)); refine ld_event rfl rfl (by first | rfl | (go_simp; done) | (go_simp; rfl)) Try.underlying22 trivial (.slice A0 l0.length c0) ((blk_cell BK1.out 1).trans rfl) ?_) | ((with_reducible refine gate_callee (f := 28) rfl ?_); (try (refine gate_guard (by rfl) ?_; dsimp only)); refine goesL_ (some 34) rfl rfl Try.func28 (by kernel_rfl) rfl #[.slice A0 l0.length c0] rfl (by (try simp only [List.map_toArray, List.map_cons, List.map_nil]); first | done | rfl) ?_; (with_reducible refine (flow_Net.calls A0 c0 l0 _ (Kd.C_below HR0.out HB.out) HC0.out (by have := HSZ.out; omega) HWF.out).mono ?_); rintro e wv2_ ⟨v2, ts, f, rfl, ho, hb, hlen, hg⟩; obtain ⟨A2, c2, rfl⟩ := Kd.R_slice ho; obtain ⟨k, hk⟩ := refNets l0 (by have := HSZ.out; omega) (fun x hx => wf_I64n (HWF.out x hx).2) (fun x hx => (HWF.out x hx).1) ts f hg; have hff : (f == f) = true := (by simp); refine ⟨_, rfl, ?_⟩; replace BK1 := ak (blk_below BK1.out hb); have RO2 := ak (ho); have SZ2 := ak (below_size HB.out); replace HB := ak (below_step HB.out hb); have HLN := ak (hlen); have HK := ak (hk); clear hb ho hlen hg hk) | ((with_reducible refine gate_callee (f := 26) rfl ?_); (try (refine gate_guard (by rfl) ?_; dsimp only)); refine goesL_ (some 40) rfl rfl Try.func26 (by kernel_rfl) rfl #[.slice A0 l0.length c0] rfl (by (try simp only [List.map_toArray, List.map_cons, List.map_nil]); first | done | rfl) ?_; (with_reducible refine (payofflaw03_twin.calls A0 c0 l0 l0 _ (Kd.C_below HR0.out HB.out) HC0.out (by have := HSZ.out; unfold payofflaw03_twin.f; simp; omega)).mono ?_); rintro e wv3_ ⟨v3, rfl, ho, hb⟩; obtain ⟨A3, c3, rfl⟩ := Kd.R_slice ho; refine ⟨_, rfl, ?_⟩; replace HB := ak (below_step HB.out hb); replace BK1 := ak (blk_below BK1.out hb); replace RO2 := ak (Kd.R_below RO2.out hb); have RO3 := ak (ho); clear hb ho) | ((with_reducible refine gate_callee (f := 29) rfl ?_); (try (refine gate_guard (by rfl) ?_; dsimp only)); refine goesL_ (some 41) rfl rfl Try.func29 (by kernel_rfl) rfl #[.slice A3 l0.length c3] rfl (by (try simp only [List.map_toArray, List.map_cons, List.map_nil]); first | done | rfl) ?_; (with_reducible refine (payoffref03_Net.calls k A3 c3 l0 ts f _ (Kd.R_reads' RO3.out).2.2 (Kd.R_reads' RO3.out).2.1 HK.out).mono ?_); rintro e wv4_ ⟨v4, rfl, ho, hb⟩; obtain ⟨A4, c4, rfl⟩ := Kd.R_slice ho; refine ⟨_, rfl, ?_⟩; replace HB := ak (below_step HB.out hb); replace BK1 := ak (blk_below BK1.out hb); replace RO2 := ak (Kd.R_below RO2.out hb); replace RO3 := ak (Kd.R_below RO3.out hb); have RO4 := ak (ho); clear hb ho) | ((with_reducible refine gate_callee (f := 12) rfl ?_); (try (refine gate_guard (by rfl) ?_; dsimp only)); refine goesL_ (some 47) rfl rfl Try.func12 (by kernel_rfl) rfl #[.slice A2 ts.length c2, .slice A4 ts.length c4] rfl (by (try simp only [List.map_toArray, List.map_cons, List.map_nil]); first | done | rfl) ?_; (with_reducible refine (payofflaw03_same.calls (ts.length + 1) A2 c2 ts A4 c4 ts true _ (Kd.R_reads' RO2.out).2.2 (Kd.R_reads' RO2.out).2.1 (Kd.R_reads' RO4.out).2.2 (Kd.R_reads' RO4.out).2.1 (same_self ts (by have := HLN.out; have := HSZ.out; omega) _ (by omega))).mono ?_); rintro e wv5_ ⟨rfl, hd⟩; have hb := hd.below; refine ⟨_, rfl, ?_⟩; replace HB := ak (below_step HB.out hb); replace BK1 := ak (blk_below BK1.out hb); replace RO2 := ak (Kd.R_below RO2.out hb); replace RO3 := ak (Kd.R_below RO3.out hb); replace RO4 := ak (Kd.R_below RO4.out hb); clear hb hd))
 refine bodyPost_ret (results_tmp3 rfl _ _ _) rfl ?_
 refine ⟨.slice A2 ts.length c2, .slice none 0 0, ts, [], rfl, ⟨Kd.R_lower RO2.out SZ2.out, Kd.R_nil _ _ _ _ _, ?_, by simp, HB.out⟩, ?_⟩
 ·have := HLN.out; have := HSZ.out; omega
 ·unfold Ans; rw [if_pos rfl]; exact ⟨rfl, _, _, HK.out⟩
set_option maxHeartbeats 8000000 in
set_option maxRecDepth 100000 in
theorem answer.tot (n : Int) (A0 : Option Addr) (c0 : Nat) (l0 : List S32) (w : World) (hr0 : Kd.C k32 w A0 l0.length l0) (hc0 : l0.length ≤ c0) (hsz : l0.length ≤ 1048576) (hwf : WfP l0) :
  Calls Try.prog 30 #[.agg #[.int .i64 2, .slice A0 l0.length c0, .int .i64 n]] w fun e w' => ∃ v1 v2 f t, e = .returned (.tuple #[v1, v2, .bool true]) ∧ AnsOut w w' v1 v2 f t ∧ Ans 2 n l0 f t := by
 have HR0 := ak hr0
 have HC0 := ak hc0
 have HSZ := ak hsz
 have HWF := ak hwf
 have HB := ak (Below.refl w.heap.size w)
 clear hr0
 have hu55 := Try.underlying55
 go_enter Try.func30, Try.ntmps30
 go_wp2_with (first | ((with_reducible refine gate_dst (N := 1) rfl ?_); (try (refine gate_guard (by rfl) ?_; dsimp only)); refine box_event ?hg (N := 1) ?hd (cs := #[.int .i64 2, .slice A0 l0.length c0, .int .i64 n]) (t := 55) ?hr ?_; (case hd => rfl); (case hg => rfl); (case hr => first | (go_simp; done) | (go_simp; rfl)); intro g1 hg wv1_ hbox hb; have BK1 := ak (hbox); have ORD := ak ((show w.heap.size ≤ g1 by rw [hg]; exact below_size HB.out)); replace HB := ak (below_step HB.out hb); clear hb hbox hg) | ((with_reducible refine gate_dst (N := 28) rfl ?_); (try (refine gate_guard (by rfl) ?_; dsimp only)); refine ld_event rfl rfl (by first | rfl | (go_simp; done) | (go_simp; rfl)) Try.underlying3 trivial (.int .i64 2) ((blk_cell BK1.out 0).trans rfl) ?_) | ((with_reducible refine gate_dst (N := 57) rfl ?_); (try (refine gate_guard (by rfl) ?_; dsimp only)); refine ld_event rfl rfl (by first | rfl | (go_simp; done) | (go_simp; rfl)) Try.underlying22 trivial (.slice A0 l0.length c0) ((blk_cell BK1.out 1).trans rfl) ?_) | ((with_reducible refine gate_dst (N := 63) rfl ?_); (try (refine gate_guard (by rfl) ?_; dsimp only)); refine ld_event rfl rfl (by first | rfl | (go_simp; done) | (go_simp; rfl)) Try.underlying22 trivial (.slice A0 l0.length c0) ((blk_cell BK1.out 1).trans rfl) ?_) | ((with_reducible refine gate_callee (f := 24) rfl ?_); (try (refine gate_guard (by rfl) ?_; dsimp only)); refine goesL_ (some 58) rfl rfl Try.func24 (by kernel_rfl) rfl #[.slice A0 l0.length c0] rfl (by (try simp only [List.map_toArray, List.map_cons, List.map_nil]); first | done | rfl) ?_; (with_reducible refine (flow_Totals.calls A0 c0 l0 _ (Kd.C_below HR0.out HB.out) HC0.out (by have := HSZ.out; omega) (wfA_ofP HWF.out)).mono ?_); rintro e wv2_ ⟨v2, ts, f, rfl, ho, hb, hlen, hg⟩; obtain ⟨A2, c2, rfl⟩ := Kd.R_slice ho; obtain ⟨k, hk⟩ := refTotals l0 (by have := HSZ.out; omega) (fun x hx => wf_I64 (HWF.out x hx).2) ts f hg; have hff : (f == f) = true := (by simp); refine ⟨_, rfl, ?_⟩; replace BK1 := ak (blk_below BK1.out hb); have RO2 := ak (ho); have SZ2 := ak (below_size HB.out); replace HB := ak (below_step HB.out hb); have HLN := ak (hlen); have HK := ak (hk); clear hb ho hlen hg hk) | ((with_reducible refine gate_callee (f := 26) rfl ?_); (try (refine gate_guard (by rfl) ?_; dsimp only)); refine goesL_ (some 64) rfl rfl Try.func26 (by kernel_rfl) rfl #[.slice A0 l0.length c0] rfl (by (try simp only [List.map_toArray, List.map_cons, List.map_nil]); first | done | rfl) ?_; (with_reducible refine (payofflaw03_twin.calls A0 c0 l0 l0 _ (Kd.C_below HR0.out HB.out) HC0.out (by have := HSZ.out; unfold payofflaw03_twin.f; simp; omega)).mono ?_); rintro e wv3_ ⟨v3, rfl, ho, hb⟩; obtain ⟨A3, c3, rfl⟩ := Kd.R_slice ho; refine ⟨_, rfl, ?_⟩; replace HB := ak (below_step HB.out hb); replace BK1 := ak (blk_below BK1.out hb); replace RO2 := ak (Kd.R_below RO2.out hb); have RO3 := ak (ho); clear hb ho) | ((with_reducible refine gate_callee (f := 25) rfl ?_); (try (refine gate_guard (by rfl) ?_; dsimp only)); refine goesL_ (some 65) rfl rfl Try.func25 (by kernel_rfl) rfl #[.slice A3 l0.length c3] rfl (by (try simp only [List.map_toArray, List.map_cons, List.map_nil]); first | done | rfl) ?_; (with_reducible refine (payoffref03_Totals.calls k A3 c3 l0 ts f _ (Kd.R_reads' RO3.out).2.2 (Kd.R_reads' RO3.out).2.1 HK.out).mono ?_); rintro e wv4_ ⟨v4, rfl, ho, hb⟩; obtain ⟨A4, c4, rfl⟩ := Kd.R_slice ho; refine ⟨_, rfl, ?_⟩; replace HB := ak (below_step HB.out hb); replace BK1 := ak (blk_below BK1.out hb); replace RO2 := ak (Kd.R_below RO2.out hb); replace RO3 := ak (Kd.R_below RO3.out hb); have RO4 := ak (ho); clear hb ho) | ((with_reducible refine gate_callee (f := 27) rfl ?_); (try (refine gate_guard (by rfl) ?_; dsimp only)); refine goesL_ (some 71) rfl rfl Try.func27 (by kernel_rfl) rfl #[.slice A2 ts.length c2, .slice A4 ts.length c4] rfl (by (try simp only [List.map_toArray, List.map_cons, List.map_nil]); first | done | rfl) ?_; (with_reducible refine (payofflaw03_sameTotals.calls (ts.length + 1) A2 c2 ts A4 c4 ts true _ (Kd.R_reads' RO2.out).2.2 (Kd.R_reads' RO2.out).2.1 (Kd.R_reads' RO4.out).2.2 (Kd.R_reads' RO4.out).2.1 (sameT_self ts (by have := HLN.out; have := HSZ.out; omega) _ (by omega))).mono ?_); rintro e wv5_ ⟨rfl, hd⟩; have hb := hd.below; refine ⟨_, rfl, ?_⟩; replace HB := ak (below_step HB.out hb); replace BK1 := ak (blk_below BK1.out hb); replace RO2 := ak (Kd.R_below RO2.out hb); replace RO3 := ak (Kd.R_below RO3.out hb); replace RO4 := ak (Kd.R_below RO4.out hb); clear hb hd))
 refine bodyPost_ret (results_tmp3 rfl _ _ _) rfl ?_
 refine ⟨.slice none 0 0, .slice A2 ts.length c2, [], ts, rfl, ⟨Kd.R_nil _ _ _ _ _, Kd.R_lower RO2.out SZ2.out, by simp, ?_, HB.out⟩, ?_⟩
 ·have := HLN.out; have := HSZ.out; omega
 ·unfold Ans; rw [if_neg (by decide), if_pos rfl]; exact ⟨rfl, _, _, HK.out⟩
set_option maxHeartbeats 8000000 in
set_option maxRecDepth 100000 in
theorem answer.any (kd : Int) (h1 : kd ≠ 1) (h2 : kd ≠ 2) (h3 : kd ≠ 3) (h4 : kd ≠ 4) (n : Int) (A0 : Option Addr) (c0 : Nat) (l0 : List S32) (w : World) (hr0 : Kd.C k32 w A0 l0.length l0) (hc0 : l0.length ≤ c0) (hsz : l0.length ≤ 1048576) (hwf : WfP l0) :
  Calls Try.prog 30 #[.agg #[.int .i64 kd, .slice A0 l0.length c0, .int .i64 n]] w fun e w' => ∃ v1 v2 f t, e = .returned (.tuple #[v1, v2, .bool true]) ∧ AnsOut w w' v1 v2 f t ∧ Ans kd n l0 f t := by
 have HR0 := ak hr0
 have HC0 := ak hc0
 have HSZ := ak hsz
 have HWF := ak hwf
 have HB := ak (Below.refl w.heap.size w)
 clear hr0
 obtain ⟨K1, s0, e0, hp⟩ := refPrint_some l0 (by omega) (wfI_ofP hwf)
 obtain ⟨K2, lp, q, e3, hpp, hpr, hln⟩ := GParses.parse_both s0
 have HP := ak hp
 have HPP := ak hpp
 have HPR := ak hpr
 obtain ⟨L, hLq⟩ : ∃ L, L = lp.map cvS := ⟨_, rfl⟩
 have HLQ := ak hLq
 have HLN := ak (show L.length ≤ 1048576 by rw [hLq, List.length_map]; exact hln)
 clear hp hpp hpr hln hLq
 have hff : (e3 == e3) = true := by simp
 have hqq : (q == q) = true := by simp
 have b1 : (kd == 1) = false := by simpa using h1
 have b2 : (kd == 2) = false := by simpa using h2
 have b3 : (kd == 3) = false := by simpa using h3
 have b4 : (kd == 4) = false := by simpa using h4
 have hu55 := Try.underlying55
 go_enter Try.func30, Try.ntmps30
 go_wp2_with (first | ((with_reducible refine gate_dst (N := 1) rfl ?_); (try (refine gate_guard (by rfl) ?_; dsimp only)); refine box_event ?hg (N := 1) ?hd (cs := #[.int .i64 kd, .slice A0 l0.length c0, .int .i64 n]) (t := 55) ?hr ?_; (case hd => rfl); (case hg => rfl); (case hr => first | (go_simp; done) | (go_simp; rfl)); intro g1 hg wv1_ hbox hb; have BK1 := ak (hbox); have ORD := ak ((show w.heap.size ≤ g1 by rw [hg]; exact below_size HB.out)); replace HB := ak (below_step HB.out hb); clear hb hbox hg) | ((with_reducible refine gate_dst (N := 28) rfl ?_); (try (refine gate_guard (by rfl) ?_; dsimp only)); refine ld_event rfl rfl (by first | rfl | (go_simp; done) | (go_simp; rfl)) Try.underlying3 trivial (.int .i64 kd) ((blk_cell BK1.out 0).trans rfl) ?_) | ((with_reducible refine gate_dst (N := 150) rfl ?_); (try (refine gate_guard (by rfl) ?_; dsimp only)); refine ld_event rfl rfl (by first | rfl | (go_simp; done) | (go_simp; rfl)) Try.underlying22 trivial (.slice A0 l0.length c0) ((blk_cell BK1.out 1).trans rfl) ?_) | ((with_reducible refine gate_callee (f := 50) rfl ?_); (try (refine gate_guard (by rfl) ?_; dsimp only)); refine goesL_ (some 151) rfl rfl Try.func50 (by kernel_rfl) rfl #[.slice A0 l0.length c0] rfl (by (try simp only [List.map_toArray, List.map_cons, List.map_nil]); first | done | rfl) ?_; (with_reducible refine (payoffref03_Print.calls K1 A0 c0 l0 s0 e0 _ (Kd.C_below HR0.out HB.out) HC0.out HP.out).mono ?_); rintro e wv2_ ⟨rfl, hb⟩; refine ⟨_, rfl, ?_⟩; replace HB := ak (below_step HB.out hb); replace BK1 := ak (blk_below BK1.out hb); clear hb) | ((with_reducible refine gate_callee (f := 20) rfl ?_); (try (refine gate_guard (by rfl) ?_; dsimp only)); refine goesL_ (some 156) rfl rfl Try.func20 (by kernel_rfl) rfl #[.string s0] rfl (by (try simp only [List.map_toArray, List.map_cons, List.map_nil]); first | done | rfl) ?_; (with_reducible refine (parseL.calls s0 lp q e3 K2 HPP.out _ L HLQ.out).mono ?_); rintro e wv3_ ⟨v2, rfl, ho, hb⟩; obtain ⟨A2, c2, rfl⟩ := Kd.R_slice ho; refine ⟨_, rfl, ?_⟩; replace BK1 := ak (blk_below BK1.out hb); have RO2 := ak (ho); have SZ2 := ak (below_size HB.out); replace HB := ak (below_step HB.out hb); clear hb ho) | ((with_reducible refine gate_callee (f := 21) rfl ?_); (try (refine gate_guard (by rfl) ?_; dsimp only)); refine goesL_ (some 162) rfl rfl Try.func21 (by kernel_rfl) rfl #[.string s0] rfl (by (try simp only [List.map_toArray, List.map_cons, List.map_nil]); first | done | rfl) ?_; (with_reducible refine (parseRL.calls s0 lp q e3 K2 HPR.out _ L HLQ.out).mono ?_); rintro e wv4_ ⟨v4, rfl, ho, hb⟩; obtain ⟨A4, c4, rfl⟩ := Kd.R_slice ho; refine ⟨_, rfl, ?_⟩; replace HB := ak (below_step HB.out hb); replace BK1 := ak (blk_below BK1.out hb); replace RO2 := ak (Kd.R_below RO2.out hb); have RO4 := ak (ho); clear hb ho) | ((with_reducible refine gate_callee (f := 12) rfl ?_); (try (refine gate_guard (by rfl) ?_; dsimp only)); refine goesL_ (some 169) rfl rfl Try.func12 (by kernel_rfl) rfl #[.slice A2 L.length c2, .slice A4 L.length c4] rfl (by (try simp only [List.map_toArray, List.map_cons, List.map_nil]); first | done | rfl) ?_; (with_reducible refine (payofflaw03_same.calls (L.length + 1) A2 c2 L A4 c4 L true _ (Kd.R_reads' RO2.out).2.2 (Kd.R_reads' RO2.out).2.1 (Kd.R_reads' RO4.out).2.2 (Kd.R_reads' RO4.out).2.1 (same_self L (by have := HLN.out; omega) _ (by omega))).mono ?_); rintro e wv5_ ⟨rfl, hd⟩; have hb := hd.below; refine ⟨_, rfl, ?_⟩; replace HB := ak (below_step HB.out hb); replace BK1 := ak (blk_below BK1.out hb); replace RO2 := ak (Kd.R_below RO2.out hb); replace RO4 := ak (Kd.R_below RO4.out hb); clear hb hd))
 refine bodyPost_ret (results_tmp3 rfl _ _ _) rfl ?_
 refine ⟨.slice A2 L.length c2, .slice none 0 0, L, [], rfl, ⟨Kd.R_lower RO2.out SZ2.out, Kd.R_nil _ _ _ _ _, HLN.out, by simp, HB.out⟩, ?_⟩
 unfold Ans
 rw [if_neg h1, if_neg h2, if_neg h3, if_neg h4]
 exact ⟨rfl, _, _, _, _, _, _, _, HP.out, HPR.out, HLQ.out⟩
set_option maxHeartbeats 8000000 in
set_option maxRecDepth 100000 in
theorem answer.upto (n : Int) (A0 : Option Addr) (c0 : Nat) (l0 : List S32) (w : World) (hr0 : Kd.C k32 w A0 l0.length l0) (hc0 : l0.length ≤ c0) (hsz : l0.length ≤ 1048576) (hwf : WfP l0) :
  Calls Try.prog 30 #[.agg #[.int .i64 4, .slice A0 l0.length c0, .int .i64 n]] w fun e w' => ∃ v1 v2 f t, e = .returned (.tuple #[v1, v2, .bool true]) ∧ AnsOut w w' v1 v2 f t ∧ Ans 4 n l0 f t := by
 have HR0 := ak hr0
 have HC0 := ak hc0
 have HSZ := ak hsz
 have HWF := ak hwf
 have HB := ak (Below.refl w.heap.size w)
 clear hr0
 obtain ⟨u, hu⟩ : ∃ u, u = upto_ n l0 := ⟨_, rfl⟩
 have HU := ak hu
 have HUL := ak (show u.length ≤ l0.length by rw [hu]; exact upto_len n l0)
 clear hu
 have hu55 := Try.underlying55
 go_enter Try.func30, Try.ntmps30
 go_upto_region 19 with (first | ((with_reducible refine gate_dst (N := 1) rfl ?_); (try (refine gate_guard (by rfl) ?_; dsimp only)); refine box_event ?hg (N := 1) ?hd (cs := #[.int .i64 4, .slice A0 l0.length c0, .int .i64 n]) (t := 55) ?hr ?_; (case hd => rfl); (case hg => rfl); (case hr => first | (go_simp; done) | (go_simp; rfl)); intro g1 hg wv1_ hbox hb; have BK1 := ak (hbox); have ORD := ak ((show w.heap.size ≤ g1 by rw [hg]; exact below_size HB.out)); replace HB := ak (below_step HB.out hb); clear hb hbox hg) | ((with_reducible refine gate_dst (N := 28) rfl ?_); (try (refine gate_guard (by rfl) ?_; dsimp only)); refine ld_event rfl rfl (by first | rfl | (go_simp; done) | (go_simp; rfl)) Try.underlying3 trivial (.int .i64 4) ((blk_cell BK1.out 0).trans rfl) ?_) | ((with_reducible refine gate_dst (N := 135) rfl ?_); (try (refine gate_guard (by rfl) ?_; dsimp only)); refine ld_event rfl rfl (by first | rfl | (go_simp; done) | (go_simp; rfl)) Try.underlying22 trivial (.slice A0 l0.length c0) ((blk_cell BK1.out 1).trans rfl) ?_) | ((with_reducible refine gate_dst (N := 137) rfl ?_); (try (refine gate_guard (by rfl) ?_; dsimp only)); refine ld_event rfl rfl (by first | rfl | (go_simp; done) | (go_simp; rfl)) Try.underlying3 trivial (.int .i64 n) ((blk_cell BK1.out 2).trans rfl) ?_) | ((with_reducible refine gate_callee (f := 11) rfl ?_); (try (refine gate_guard (by rfl) ?_; dsimp only)); refine goesL_ (some 138) rfl rfl Try.func11 (by kernel_rfl) rfl #[.slice A0 l0.length c0, .int .i64 n] rfl (by (try simp only [List.map_toArray, List.map_cons, List.map_nil]); first | done | rfl) ?_; (with_reducible refine (flow_Until.calls (l0.length + 1) A0 c0 l0 n u _ (Kd.C_below HR0.out HB.out) HC0.out (by rw [HU.out]; exact until_f n l0 (by have := HSZ.out; omega) _ (by omega))).mono ?_); rintro e wv2_ ⟨v2, rfl, ho, hb⟩; obtain ⟨A2, c2, rfl⟩ := Kd.R_slice ho; refine ⟨_, rfl, ?_⟩; replace BK1 := ak (blk_below BK1.out hb); have RO2 := ak (ho); have SZ2 := ak (below_size HB.out); replace HB := ak (below_step HB.out hb); clear hb ho))
 refine start_ (n := 12) (S := fun w' => w'.heap[g1]? = some (.cells #[.int .i64 4, .slice A0 l0.length c0, .int .i64 n] 55 (0, 0))) (ds := []) (Go.ba 12 0) (by kernel_rfl) rfl rfl (blk_below BK1.out (below_drew1 (Below.refl _ _))) (fun hHeld => ?_)
 replace HB := ak (below_drew1 HB.out)
 replace BK1 := ak (blk_drew BK1.out)
 replace RO2 := ak (Kd.R_drew RO2.out)
 generalize wv2_.drew = wv3_ at HB BK1 RO2 hHeld ⊢
 refine pu 0 139 (Go.ba 12 1) (by kernel_rfl) ?_
 refine pu 1 140 (Go.ba 12 3) (by kernel_rfl) ?_
 refine pu 2 141 (Go.ba 12 7) (by kernel_rfl) ?_
 refine tk 3 142 (Go.ba 12 15) (by kernel_rfl) hHeld ?_ (hy := by rintro w' s1; refine Eq.trans (ld_run rfl (by first | rfl | (go_simp; done) | (go_simp; rfl)) Try.underlying22 trivial (.slice A0 l0.length c0) ((blk_cell s1 1).trans rfl)) ?_; with_reducible rfl)
 refine pu 5 144 (Go.ba 12 47) (by kernel_rfl) ?_
 refine tk 6 145 (Go.ba 12 111) (by kernel_rfl) hHeld ?_ (hy := by rintro w' s1; refine Eq.trans (ld_run rfl (by first | rfl | (go_simp; done) | (go_simp; rfl)) Try.underlying3 trivial (.int .i64 n) ((blk_cell s1 2).trans rfl)) ?_; with_reducible rfl)
 refine one_ (i := 4) (N := some 143) (Go.ba 12 127) rfl rfl (by kernel_rfl) (by decide) (fun K hK => ?_)
 refine goes_ Try.func26 (by kernel_rfl) rfl #[.slice A0 l0.length c0] (by rfl) rfl rfl (by (try simp only [List.map_toArray, List.map_cons, List.map_nil]); first | done | rfl) ?_
 with_reducible refine (payofflaw03_twin.calls A0 c0 l0 l0 _ (Kd.C_below HR0.out HB.out) HC0.out (by have := HSZ.out; unfold payofflaw03_twin.f; simp; omega)).mono ?_
 rintro e wv4_ ⟨v3, rfl, ho, hb⟩
 obtain ⟨A3, c3, rfl⟩ := Kd.R_slice ho
 refine ⟨_, rfl, ?_⟩
 replace HB := ak (below_step HB.out hb)
 replace BK1 := ak (blk_below BK1.out hb)
 replace RO2 := ak (Kd.R_below RO2.out hb)
 have RO3 := ak (ho)
 clear hb ho
 refine hK.out _ _ BK1.out (fun hHeld => ?_)
 clear hK K
 refine norm_ (a' := ?_) ?_ ?_
 rotate_left
 ·show Act.put _ (some 143) _ = _
  simp only [pz]
  rfl
 refine one_ (i := 7) (N := some 146) (Go.ba 12 255) rfl rfl (by kernel_rfl) (by decide) (fun K hK => ?_)
 refine goes_ Try.func13 (by kernel_rfl) rfl #[.slice A3 l0.length c3, .int .i64 n] (by rfl) rfl rfl (by (try simp only [List.map_toArray, List.map_cons, List.map_nil]); first | done | rfl) ?_
 with_reducible refine (payoffref03_Until.calls (l0.length + 1) A3 c3 l0 n u _ (Kd.R_reads' RO3.out).2.2 (Kd.R_reads' RO3.out).2.1 (by rw [HU.out]; exact refUntil_f n l0 (by have := HSZ.out; omega) _ (by omega))).mono ?_
 rintro e wv5_ ⟨v4, rfl, ho, hb⟩
 obtain ⟨A4, c4, rfl⟩ := Kd.R_slice ho
 refine ⟨_, rfl, ?_⟩
 replace HB := ak (below_step HB.out hb)
 replace BK1 := ak (blk_below BK1.out hb)
 replace RO2 := ak (Kd.R_below RO2.out hb)
 replace RO3 := ak (Kd.R_below RO3.out hb)
 have RO4 := ak (ho)
 clear hb ho
 refine hK.out _ _ BK1.out (fun hHeld => ?_)
 clear hK K
 refine norm_ (a' := ?_) ?_ ?_
 rotate_left
 ·show Act.put _ (some 146) _ = _
  simp only [pz]
  rfl
 refine one_ (i := 8) (N := some 147) (Go.ba 12 511) rfl rfl (by kernel_rfl) (by decide) (fun K hK => ?_)
 refine goes_ Try.func12 (by kernel_rfl) rfl #[.slice A2 u.length c2, .slice A4 u.length c4] (by rfl) rfl rfl (by (try simp only [List.map_toArray, List.map_cons, List.map_nil]); first | done | rfl) ?_
 with_reducible refine (payofflaw03_same.calls (u.length + 1) A2 c2 u A4 c4 u true _ (Kd.R_reads' RO2.out).2.2 (Kd.R_reads' RO2.out).2.1 (Kd.R_reads' RO4.out).2.2 (Kd.R_reads' RO4.out).2.1 (same_self u (by have := HUL.out; have := HSZ.out; omega) _ (by omega))).mono ?_
 rintro e wv6_ ⟨rfl, hd⟩
 have hb := hd.below
 refine ⟨_, rfl, ?_⟩
 replace HB := ak (below_step HB.out hb)
 replace BK1 := ak (blk_below BK1.out hb)
 replace RO2 := ak (Kd.R_below RO2.out hb)
 replace RO3 := ak (Kd.R_below RO3.out hb)
 replace RO4 := ak (Kd.R_below RO4.out hb)
 clear hb hd
 refine hK.out _ _ BK1.out (fun hHeld => ?_)
 clear hK K
 refine norm_ (a' := ?_) ?_ ?_
 rotate_left
 ·show Act.put _ (some 147) _ = _
  simp only [pz]
  rfl
 refine pu 9 2 (Go.ba 12 1023) (by kernel_rfl) ?_
 refine pu 10 3 (Go.ba 12 2047) (by kernel_rfl) ?_
 refine pu 11 4 (Go.ba 12 4095) (by kernel_rfl) ?_
 refine done_ (by kernel_rfl) ?_
 go_wp2
 refine bodyPost_ret (results_tmp3 rfl _ _ _) rfl ?_
 refine ⟨.slice A2 u.length c2, .slice none 0 0, u, [], rfl, ⟨Kd.R_lower RO2.out SZ2.out, Kd.R_nil _ _ _ _ _, ?_, by simp, HB.out⟩, ?_⟩
 ·have := HUL.out; have := HSZ.out; omega
 ·unfold Ans; rw [if_neg (by decide), if_neg (by decide), if_neg (by decide), if_pos rfl]; exact ⟨rfl, HU.out⟩
theorem cutN_int {n : Int} {l : List S32} (hn : 0 < n) (hl : 0 < l.length) : n % ((l.length : Int) + 1) = (cutN n l : Int) := by
 obtain ⟨q, rfl⟩ := Int.eq_ofNat_of_zero_le (Int.le_of_lt hn)
 unfold cutN
 rw [if_pos ⟨hn, hl⟩, Int.toNat_natCast]
 rfl
theorem size32 : (Try.prog.info? 32).map (fun i => i.size) = some 3 := by kernel_rfl
theorem two_rows {w : World} {g : Nat} {A B : Option Addr} {a b : Nat} {T D : List S32} (hb : w.heap[g]? = some (.cells #[.slice A T.length a, .slice B D.length b] 22 (0, 0))) (h1 : Kd.C k32 w A T.length T) (ha : T.length ≤ a) (h2 : Kd.C k32 w B D.length D) (hb2 : D.length ≤ b) : Kd.C (Kd.slice 32 k32) w (some ⟨g, 0, none⟩) [T, D].length [T, D] := by
 refine ⟨rfl, by simp, fun _ => ⟨_, rfl, fun j x hj => ?_⟩⟩
 match j, hj with
 | 0, hj => cases hj; exact ⟨_, rfl, ⟨A, a, rfl, ha, h1⟩, fun i u hu => by match i, hu with | 0, hu => cases hu; exact blk_cell hb 0⟩
 | 1, hj => cases hj; exact ⟨_, rfl, ⟨B, b, rfl, hb2, h2⟩, fun i u hu => by match i, hu with | 0, hu => cases hu; exact blk_cell hb 1⟩
section
variable {P : Program} {Q : Exit → Act → World → Prop} {ops : Array Oper} {o : Oper} {a : Act} {K : Act → World → Prop}
theorem slice_run {W : World} {ρ : Operand → Value} {t : TypeId} {s : Operand} {lo hi mx : Option Operand} {e : TypeId} (hu : P.underlying t = some (.slice e)) (ho : o.op = .slice t s lo hi mx) {r : Value} (h : (Instr.slice t (ρ s) (lo.map ρ) (hi.map ρ) (mx.map ρ)).run P W = .ok r W) : (execOp ρ o).run P W = .ok (.value r) W := by
 have hel : P.elem t = e := by simp [Program.elem, hu]
 have hu2 : P.underlying t = some (.slice (P.elem t)) := by rw [hel]; exact hu
 simp [execOp, ho, run_sliceAt_slice (P := P) (w := W) (h := hu2), h, Result.andThen]
theorem lit2_value {W : World} {N : Option Tmp} (hw : Region.wanted o (yielded ops a.tmps) = true) (hN : o.dst = N) {cs : Array Value} {t : TypeId} {n : Nat}
  (hrun : (execOp a.eval o).run P W = .ok (.value (.slice (some ⟨W.heap.size, 0, none⟩) n n)) (W.alloc (.cells cs t (0, 0))))
  (h : ∀ g, g = W.heap.size → ∀ w1, w1.heap[g]? = some (.cells cs t (0, 0)) → Below W.heap.size W w1 → K (a.put N (.slice (some ⟨g, 0, none⟩) n n)) w1) : if Region.wanted o (yielded ops a.tmps) = true then Oper.wp P o a W K Q else K (a.put N undef) W :=
 value_ hw hN hrun (h _ rfl _ (blk_new W _) (below_alloc (Below.refl _ _) _))
end
def AnsRes (kd n : Int) (l0 : List S32) (w : World) (e : Ending) (w' : World) : Prop := ∃ v1 v2 f t, e = .returned (.tuple #[v1, v2, .bool true]) ∧ AnsOut w w' v1 v2 f t ∧ Ans kd n l0 f t
set_option maxHeartbeats 8000000 in
set_option maxRecDepth 100000 in
theorem answer.merge0 (n : Int) (A0 : Option Addr) (c0 : Nat) (l0 : List S32) (w : World) (hr0 : Kd.C k32 w A0 l0.length l0) (hc0 : l0.length ≤ c0) (hsz : l0.length ≤ 1048576) (hwf : WfP l0) :
  Calls Try.prog 30 #[.agg #[.int .i64 3, .slice A0 l0.length c0, .int .i64 n]] w (AnsRes 3 n l0 w) := by
 obtain ⟨T, hT⟩ : ∃ T, T = l0.take (cutN n l0) := ⟨_, rfl⟩
 obtain ⟨D, hD⟩ : ∃ D, D = l0.drop (cutN n l0) := ⟨_, rfl⟩
 have hm := cutN_le n l0
 have hTl : T.length = cutN n l0 := by rw [hT, List.length_take]; omega
 have hDl : D.length = l0.length - T.length := by rw [hD, List.length_drop, hTl]
 have hct := Kd.C_take hr0 hm
 rw [← hT] at hct
 have hcd := Kd.C_drop hr0 hm hc0
 rw [← hD, ← hTl] at hcd
 obtain ⟨i32, hi32, _⟩ := Option.map_eq_some_iff.1 size32
 have hcut1 := cut_to (P := Try.prog) 22 32 .i64 Try.underlying22 hi32 A0 l0.length c0 (T.length : Int) (by omega) (by omega) hc0
 have hcut2 := cut_from (P := Try.prog) 22 32 .i64 Try.underlying22 hi32 3 (by have h3 := size32; rw [hi32] at h3; exact Option.some.inj h3) A0 l0.length c0 (T.length : Int) (by omega) (by omega)
 rw [Int.toNat_natCast] at hcut1 hcut2
 rw [← hDl] at hcut2
 obtain ⟨B0, hB0⟩ : ∃ B0, B0 = (if c0 = T.length then A0 else A0.map (·.add (T.length * 3))) := ⟨_, rfl⟩
 rw [← hB0] at hcut2
 have hcd2 : Kd.C k32 w B0 D.length D := by rw [hB0]; exact hcd
 have HCT := ak hct
 have HCD := ak hcd2
 have HTC := ak (show T.length ≤ c0 by omega)
 have HDC := ak (show D.length ≤ c0 - T.length by omega)
 have HFL := ak (show T.length + D.length ≤ 1048576 by omega)
 have HC1 := ak hcut1
 have HC2 := ak hcut2
 have HTT := ak hT
 have HDD := ak hD
 have HTL := ak hTl
 clear hB0 hcd2 hct hcd hcut1 hcut2 hT hD hDl hTl hm hi32
 have HR0 := ak hr0
 have HC0 := ak hc0
 have HSZ := ak hsz
 have HWF := ak hwf
 have HB := ak (Below.refl w.heap.size w)
 clear hr0
 have hw1 : wrap64 ((l0.length : Int) + 1) = (l0.length : Int) + 1 := by unfold wrap64; omega
 have hz1 : ((l0.length : Int) + 1 = 0) = False := eq_false (by omega)
 have hor : (0 < n ∧ 0 < l0.length) ∨ (0 < n ∧ ¬ 0 < l0.length) ∨ ¬ 0 < n := by omega
 have hvz : ¬ (0 < n ∧ 0 < l0.length) → Value.int IntKind.i64 0 = Value.int IntKind.i64 (T.length : Int) := fun h => by
  rw [HTL.out]; unfold cutN; rw [if_neg h]; rfl
 have HVZ := ak hvz
 clear hvz
 rcases hor with ⟨hn, hl⟩ | ⟨hn, hl⟩ | hn
 have hrem : n % ((l0.length : Int) + 1) = (T.length : Int) := by
  rw [HTL.out]; exact cutN_int hn hl
 go_enter Try.func30, Try.ntmps30
 go_upto_region 14 with (first | ((with_reducible refine gate_dst (N := 1) rfl ?_); (try (refine gate_guard (by rfl) ?_; dsimp only)); refine box_event ?hg (N := 1) ?hd (cs := #[.int .i64 3, .slice A0 l0.length c0, .int .i64 n]) (t := 55) ?hr ?_; (case hd => rfl); (case hg => rfl); (case hr => first | (go_simp; done) | (go_simp; rfl)); intro g1 hg wv1_ hbox hb; have BK1 := ak (hbox); have ORD := ak ((show w.heap.size ≤ g1 by rw [hg]; exact below_size HB.out)); replace HB := ak (below_step HB.out hb); clear hb hbox hg) | ((with_reducible refine gate_dst (N := 28) rfl ?_); (try (refine gate_guard (by rfl) ?_; dsimp only)); refine ld_event rfl rfl (by first | rfl | (go_simp; done) | (go_simp; rfl)) Try.underlying3 trivial (.int .i64 3) ((blk_cell BK1.out 0).trans rfl) ?_) | ((with_reducible refine gate_dst (N := 80) rfl ?_); (try (refine gate_guard (by rfl) ?_; dsimp only)); refine ld_event rfl rfl (by first | rfl | (go_simp; done) | (go_simp; rfl)) Try.underlying3 trivial (.int .i64 n) ((blk_cell BK1.out 2).trans rfl) ?_) | ((with_reducible refine gate_dst (N := 84) rfl ?_); (try (refine gate_guard (by rfl) ?_; dsimp only)); refine ld_event rfl rfl (by first | rfl | (go_simp; done) | (go_simp; rfl)) Try.underlying22 trivial (.slice A0 l0.length c0) ((blk_cell BK1.out 1).trans rfl) ?_) | ((with_reducible refine gate_dst (N := 89) rfl ?_); (try (refine gate_guard (by rfl) ?_; dsimp only)); refine ld_event rfl rfl (by first | rfl | (go_simp; done) | (go_simp; rfl)) Try.underlying3 trivial (.int .i64 n) ((blk_cell BK1.out 2).trans rfl) ?_) | ((with_reducible refine gate_dst (N := 91) rfl ?_); (try (refine gate_guard (by rfl) ?_; dsimp only)); refine ld_event rfl rfl (by first | rfl | (go_simp; done) | (go_simp; rfl)) Try.underlying22 trivial (.slice A0 l0.length c0) ((blk_cell BK1.out 1).trans rfl) ?_))
 rw [hrem]
 clear hrem
 rotate_left
 have hl1 : ¬ (0 : Int) < (l0.length : Int) := by omega
 have hl2 : decide ((0 : Int) < (l0.length : Int)) = false := decide_eq_false hl1
 have hl3 : decide (0 < l0.length) = false := decide_eq_false hl
 go_enter Try.func30, Try.ntmps30
 go_upto_region 14 with (first | ((with_reducible refine gate_dst (N := 1) rfl ?_); (try (refine gate_guard (by rfl) ?_; dsimp only)); refine box_event ?hg (N := 1) ?hd (cs := #[.int .i64 3, .slice A0 l0.length c0, .int .i64 n]) (t := 55) ?hr ?_; (case hd => rfl); (case hg => rfl); (case hr => first | (go_simp; done) | (go_simp; rfl)); intro g1 hg wv1_ hbox hb; have BK1 := ak (hbox); have ORD := ak ((show w.heap.size ≤ g1 by rw [hg]; exact below_size HB.out)); replace HB := ak (below_step HB.out hb); clear hb hbox hg) | ((with_reducible refine gate_dst (N := 28) rfl ?_); (try (refine gate_guard (by rfl) ?_; dsimp only)); refine ld_event rfl rfl (by first | rfl | (go_simp; done) | (go_simp; rfl)) Try.underlying3 trivial (.int .i64 3) ((blk_cell BK1.out 0).trans rfl) ?_) | ((with_reducible refine gate_dst (N := 80) rfl ?_); (try (refine gate_guard (by rfl) ?_; dsimp only)); refine ld_event rfl rfl (by first | rfl | (go_simp; done) | (go_simp; rfl)) Try.underlying3 trivial (.int .i64 n) ((blk_cell BK1.out 2).trans rfl) ?_) | ((with_reducible refine gate_dst (N := 84) rfl ?_); (try (refine gate_guard (by rfl) ?_; dsimp only)); refine ld_event rfl rfl (by first | rfl | (go_simp; done) | (go_simp; rfl)) Try.underlying22 trivial (.slice A0 l0.length c0) ((blk_cell BK1.out 1).trans rfl) ?_) | ((with_reducible refine gate_dst (N := 89) rfl ?_); (try (refine gate_guard (by rfl) ?_; dsimp only)); refine ld_event rfl rfl (by first | rfl | (go_simp; done) | (go_simp; rfl)) Try.underlying3 trivial (.int .i64 n) ((blk_cell BK1.out 2).trans rfl) ?_) | ((with_reducible refine gate_dst (N := 91) rfl ?_); (try (refine gate_guard (by rfl) ?_; dsimp only)); refine ld_event rfl rfl (by first | rfl | (go_simp; done) | (go_simp; rfl)) Try.underlying22 trivial (.slice A0 l0.length c0) ((blk_cell BK1.out 1).trans rfl) ?_))
 rw [HVZ.out (fun h => by omega)]
 rotate_left
 go_enter Try.func30, Try.ntmps30
 go_upto_region 14 with (first | ((with_reducible refine gate_dst (N := 1) rfl ?_); (try (refine gate_guard (by rfl) ?_; dsimp only)); refine box_event ?hg (N := 1) ?hd (cs := #[.int .i64 3, .slice A0 l0.length c0, .int .i64 n]) (t := 55) ?hr ?_; (case hd => rfl); (case hg => rfl); (case hr => first | (go_simp; done) | (go_simp; rfl)); intro g1 hg wv1_ hbox hb; have BK1 := ak (hbox); have ORD := ak ((show w.heap.size ≤ g1 by rw [hg]; exact below_size HB.out)); replace HB := ak (below_step HB.out hb); clear hb hbox hg) | ((with_reducible refine gate_dst (N := 28) rfl ?_); (try (refine gate_guard (by rfl) ?_; dsimp only)); refine ld_event rfl rfl (by first | rfl | (go_simp; done) | (go_simp; rfl)) Try.underlying3 trivial (.int .i64 3) ((blk_cell BK1.out 0).trans rfl) ?_) | ((with_reducible refine gate_dst (N := 80) rfl ?_); (try (refine gate_guard (by rfl) ?_; dsimp only)); refine ld_event rfl rfl (by first | rfl | (go_simp; done) | (go_simp; rfl)) Try.underlying3 trivial (.int .i64 n) ((blk_cell BK1.out 2).trans rfl) ?_) | ((with_reducible refine gate_dst (N := 84) rfl ?_); (try (refine gate_guard (by rfl) ?_; dsimp only)); refine ld_event rfl rfl (by first | rfl | (go_simp; done) | (go_simp; rfl)) Try.underlying22 trivial (.slice A0 l0.length c0) ((blk_cell BK1.out 1).trans rfl) ?_) | ((with_reducible refine gate_dst (N := 89) rfl ?_); (try (refine gate_guard (by rfl) ?_; dsimp only)); refine ld_event rfl rfl (by first | rfl | (go_simp; done) | (go_simp; rfl)) Try.underlying3 trivial (.int .i64 n) ((blk_cell BK1.out 2).trans rfl) ?_) | ((with_reducible refine gate_dst (N := 91) rfl ?_); (try (refine gate_guard (by rfl) ?_; dsimp only)); refine ld_event rfl rfl (by first | rfl | (go_simp; done) | (go_simp; rfl)) Try.underlying22 trivial (.slice A0 l0.length c0) ((blk_cell BK1.out 1).trans rfl) ?_))
 rw [HVZ.out (fun h => by omega)]
 rotate_left
 all_goals
  refine start_ (n := 15) (S := fun w' => w'.heap[g1]? = some (.cells #[.int .i64 3, .slice A0 l0.length c0, .int .i64 n] 55 (0, 0))) (ds := []) (Go.ba 15 0) (by kernel_rfl) rfl rfl (blk_below BK1.out (below_drew1 (Below.refl _ _))) (fun hHeld => ?_)
  replace HB := ak (below_drew1 HB.out)
  replace BK1 := ak (blk_drew BK1.out)
  generalize wv1_.drew = wv2_ at HB BK1 hHeld ⊢
  refine pu 0 96 (Go.ba 15 1) (by kernel_rfl) ?_
  refine tk 1 97 (Go.ba 15 3) (by kernel_rfl) hHeld ?_ (hy := by rintro w' s1; refine Eq.trans (ld_run rfl (by first | rfl | (go_simp; done) | (go_simp; rfl)) Try.underlying22 trivial (.slice A0 l0.length c0) ((blk_cell s1 1).trans rfl)) ?_; with_reducible rfl)
  refine pu 2 98 (Go.ba 15 7) (by kernel_rfl) ?_
  refine pure_ (i := 3) (N := some 99) (v := .slice A0 T.length c0) (a' := ?_) (Go.ba 15 15) rfl rfl (by kernel_rfl) (fun _ _ _ h => h) (Or.inl ⟨by rfl, ?_⟩) ?_ ?_
  ·intro w'
   have hcut := HC1.out w'
   exact slice_run (t := 22) (s := .tmp 97) (lo := none) (hi := some (.tmp 98)) (mx := none) Try.underlying22 rfl hcut
  rotate_left
  ·simp only [pz]
   rfl
  refine pu 4 100 (Go.ba 15 31) (by kernel_rfl) ?_
  refine tk 5 101 (Go.ba 15 63) (by kernel_rfl) hHeld ?_ (hy := by rintro w' s1; refine Eq.trans (ld_run rfl (by first | rfl | (go_simp; done) | (go_simp; rfl)) Try.underlying22 trivial (.slice A0 l0.length c0) ((blk_cell s1 1).trans rfl)) ?_; with_reducible rfl)
  refine pu 6 102 (Go.ba 15 127) (by kernel_rfl) ?_
  refine pure_ (i := 7) (N := some 103) (v := .slice B0 D.length (c0 - T.length)) (a' := ?_) (Go.ba 15 255) rfl rfl (by kernel_rfl) (fun _ _ _ h => h) (Or.inl ⟨by rfl, ?_⟩) ?_ ?_
  ·intro w'
   have hcut := HC2.out w'
   exact slice_run (t := 22) (s := .tmp 101) (lo := some (.tmp 102)) (hi := none) (mx := none) Try.underlying22 rfl hcut
  rotate_left
  ·simp only [pz]
   rfl
  refine one_ (i := 8) (N := some 104) (Go.ba 15 511) rfl rfl (by kernel_rfl) (by decide) (fun K hK => ?_)
  refine lit2_value (t := 22) (n := 2) (cs := #[.slice A0 T.length c0, .slice B0 D.length (c0 - T.length)]) (by rfl) rfl (by first | (go_simp; done) | (go_simp; rfl)) ?_
  intro g8 hg_ wv3_ hbx hb
  replace HB := ak (below_step HB.out hb)
  replace BK1 := ak (blk_below BK1.out hb)
  have BG8 := ak (hbx)
  clear hbx hb hg_
  refine hK.out _ _ BK1.out (fun hHeld => ?_)
  clear hK K
  refine norm_ (a' := ?_) ?_ ?_
  rotate_left
  ·show Act.put _ (some 104) _ = _
   simp only [pz]
   rfl
  refine one_ (i := 9) (N := some 105) (Go.ba 15 1023) rfl rfl (by kernel_rfl) (by decide) (fun K hK => ?_)
  refine goes_ Try.func22 (by kernel_rfl) rfl #[.slice (some ⟨g8, 0, none⟩) [T, D].length 2] (by rfl) rfl rfl (by (try simp only [List.map_toArray, List.map_cons, List.map_nil]); first | done | rfl) ?_
  with_reducible refine (flow_Merge.calls insAll (some ⟨g8, 0, none⟩) 2 [T, D] _ (two_rows BG8.out (Kd.C_below HCT.out HB.out) HTC.out (Kd.C_below HCD.out HB.out) HDC.out) (by simp) (by simp) (by have := HFL.out; simpa using this)).mono ?_
  rintro e wv4_ ⟨v2, mm, r2, rfl, ho, hb, hml, hgd⟩
  obtain ⟨A2, c2, rfl⟩ := Kd.R_slice ho
  obtain ⟨k, hk⟩ := refMerge [T, D] (by simp) (by have := HFL.out; simpa using this) mm r2 hgd
  have hrr : (r2 == r2) = true := (by simp)
  refine ⟨_, rfl, ?_⟩
  replace BK1 := ak (blk_below BK1.out hb)
  have RO2 := ak (ho)
  have SZ2 := ak (below_size HB.out)
  replace HB := ak (below_step HB.out hb)
  have HML := ak (hml)
  have HK := ak (hk)
  clear hb ho hml hgd hk BG8
  refine hK.out _ _ BK1.out (fun hHeld => ?_)
  clear hK K
  refine norm_ (a' := ?_) ?_ ?_
  rotate_left
  ·show Act.put _ (some 105) _ = _
   simp only [pz]
   rfl
  refine pu 10 95 (Go.ba 15 2047) (by kernel_rfl) ?_
  refine pu 11 106 (Go.ba 15 4095) (by kernel_rfl) ?_
  refine pu 12 107 (Go.ba 15 8191) (by kernel_rfl) ?_
  refine pu 13 14 (Go.ba 15 16383) (by kernel_rfl) ?_
  refine pu 14 15 (Go.ba 15 32767) (by kernel_rfl) ?_
  refine done_ (by kernel_rfl) ?_
  go_upto_region 15 with (fail)
  refine start_ (n := 17) (S := fun w' => w'.heap[g1]? = some (.cells #[.int .i64 3, .slice A0 l0.length c0, .int .i64 n] 55 (0, 0))) (ds := []) (Go.ba 17 0) (by kernel_rfl) rfl rfl (blk_below BK1.out (below_drew1 (Below.refl _ _))) (fun hHeld => ?_)
  replace HB := ak (below_drew1 HB.out)
  replace BK1 := ak (blk_drew BK1.out)
  replace RO2 := ak (Kd.R_drew RO2.out)
  generalize wv4_.drew = wv5_ at HB BK1 RO2 hHeld ⊢
  refine pu 0 109 (Go.ba 17 1) (by kernel_rfl) ?_
  refine tk 1 110 (Go.ba 17 3) (by kernel_rfl) hHeld ?_ (hy := by rintro w' s1; refine Eq.trans (ld_run rfl (by first | rfl | (go_simp; done) | (go_simp; rfl)) Try.underlying22 trivial (.slice A0 l0.length c0) ((blk_cell s1 1).trans rfl)) ?_; with_reducible rfl)
  refine pu 2 111 (Go.ba 17 7) (by kernel_rfl) ?_
  refine pure_ (i := 3) (N := some 112) (v := .slice A0 T.length c0) (a' := ?_) (Go.ba 17 15) rfl rfl (by kernel_rfl) (fun _ _ _ h => h) (Or.inl ⟨by rfl, ?_⟩) ?_ ?_
  ·intro w'
   have hcut := HC1.out w'
   exact slice_run (t := 22) (s := .tmp 110) (lo := none) (hi := some (.tmp 111)) (mx := none) Try.underlying22 rfl hcut
  rotate_left
  ·simp only [pz]
   rfl
  refine pu 5 114 (Go.ba 17 47) (by kernel_rfl) ?_
  refine tk 6 115 (Go.ba 17 111) (by kernel_rfl) hHeld ?_ (hy := by rintro w' s1; refine Eq.trans (ld_run rfl (by first | rfl | (go_simp; done) | (go_simp; rfl)) Try.underlying22 trivial (.slice A0 l0.length c0) ((blk_cell s1 1).trans rfl)) ?_; with_reducible rfl)
  refine pu 7 116 (Go.ba 17 239) (by kernel_rfl) ?_
  refine pure_ (i := 8) (N := some 117) (v := .slice B0 D.length (c0 - T.length)) (a' := ?_) (Go.ba 17 495) rfl rfl (by kernel_rfl) (fun _ _ _ h => h) (Or.inl ⟨by rfl, ?_⟩) ?_ ?_
  ·intro w'
   have hcut := HC2.out w'
   exact slice_run (t := 22) (s := .tmp 115) (lo := some (.tmp 116)) (hi := none) (mx := none) Try.underlying22 rfl hcut
  rotate_left
  ·simp only [pz]
   rfl
  refine one_ (i := 4) (N := some 113) (Go.ba 17 511) rfl rfl (by kernel_rfl) (by decide) (fun K hK => ?_)
  refine goes_ Try.func26 (by kernel_rfl) rfl #[.slice A0 T.length c0] (by rfl) rfl rfl (by (try simp only [List.map_toArray, List.map_cons, List.map_nil]); first | done | rfl) ?_
  with_reducible refine (payofflaw03_twin.calls A0 c0 T T _ (Kd.C_below HCT.out HB.out) HTC.out (by have := HFL.out; unfold payofflaw03_twin.f; simp; omega)).mono ?_
  rintro e wv6_ ⟨v5, rfl, ho, hb⟩
  obtain ⟨A5, c5, rfl⟩ := Kd.R_slice ho
  refine ⟨_, rfl, ?_⟩
  replace HB := ak (below_step HB.out hb)
  replace BK1 := ak (blk_below BK1.out hb)
  replace RO2 := ak (Kd.R_below RO2.out hb)
  have RO5 := ak (ho)
  clear hb ho
  refine hK.out _ _ BK1.out (fun hHeld => ?_)
  clear hK K
  refine norm_ (a' := ?_) ?_ ?_
  rotate_left
  ·show Act.put _ (some 113) _ = _
   simp only [pz]
   rfl
  refine one_ (i := 9) (N := some 118) (Go.ba 17 1023) rfl rfl (by kernel_rfl) (by decide) (fun K hK => ?_)
  refine goes_ Try.func26 (by kernel_rfl) rfl #[.slice B0 D.length (c0 - T.length)] (by rfl) rfl rfl (by (try simp only [List.map_toArray, List.map_cons, List.map_nil]); first | done | rfl) ?_
  with_reducible refine (payofflaw03_twin.calls B0 (c0 - T.length) D D _ (Kd.C_below HCD.out HB.out) HDC.out (by have := HFL.out; unfold payofflaw03_twin.f; simp; omega)).mono ?_
  rintro e wv7_ ⟨v6, rfl, ho, hb⟩
  obtain ⟨A6, c6, rfl⟩ := Kd.R_slice ho
  refine ⟨_, rfl, ?_⟩
  replace HB := ak (below_step HB.out hb)
  replace BK1 := ak (blk_below BK1.out hb)
  replace RO2 := ak (Kd.R_below RO2.out hb)
  replace RO5 := ak (Kd.R_below RO5.out hb)
  have RO6 := ak (ho)
  clear hb ho
  refine hK.out _ _ BK1.out (fun hHeld => ?_)
  clear hK K
  refine norm_ (a' := ?_) ?_ ?_
  rotate_left
  ·show Act.put _ (some 118) _ = _
   simp only [pz]
   rfl
  refine one_ (i := 10) (N := some 119) (Go.ba 17 2047) rfl rfl (by kernel_rfl) (by decide) (fun K hK => ?_)
  refine lit2_value (t := 22) (n := 2) (cs := #[.slice A5 T.length c5, .slice A6 D.length c6]) (by rfl) rfl (by first | (go_simp; done) | (go_simp; rfl)) ?_
  intro g9 hg_ wv8_ hbx hb
  replace HB := ak (below_step HB.out hb)
  replace BK1 := ak (blk_below BK1.out hb)
  replace RO2 := ak (Kd.R_below RO2.out hb)
  replace RO5 := ak (Kd.R_below RO5.out hb)
  replace RO6 := ak (Kd.R_below RO6.out hb)
  have BG9 := ak (hbx)
  clear hbx hb hg_
  refine hK.out _ _ BK1.out (fun hHeld => ?_)
  clear hK K
  refine norm_ (a' := ?_) ?_ ?_
  rotate_left
  ·show Act.put _ (some 119) _ = _
   simp only [pz]
   rfl
  refine one_ (i := 11) (N := some 120) (Go.ba 17 4095) rfl rfl (by kernel_rfl) (by decide) (fun K hK => ?_)
  refine goes_ Try.func23 (by kernel_rfl) rfl #[.slice (some ⟨g9, 0, none⟩) [T, D].length 2] (by rfl) rfl rfl (by (try simp only [List.map_toArray, List.map_cons, List.map_nil]); first | done | rfl) ?_
  with_reducible refine (payoffref03_Merge.calls k (some ⟨g9, 0, none⟩) 2 [T, D] mm r2 _ (two_rows BG9.out (Kd.R_reads' RO5.out).2.2 (Kd.R_reads' RO5.out).2.1 (Kd.R_reads' RO6.out).2.2 (Kd.R_reads' RO6.out).2.1) (by simp) HK.out).mono ?_
  rintro e wv9_ ⟨v4, rfl, ho, hb⟩
  obtain ⟨A4, c4, rfl⟩ := Kd.R_slice ho
  refine ⟨_, rfl, ?_⟩
  replace HB := ak (below_step HB.out hb)
  replace BK1 := ak (blk_below BK1.out hb)
  replace RO2 := ak (Kd.R_below RO2.out hb)
  replace RO5 := ak (Kd.R_below RO5.out hb)
  replace RO6 := ak (Kd.R_below RO6.out hb)
  have RO4 := ak (ho)
  clear hb ho BG9
  refine hK.out _ _ BK1.out (fun hHeld => ?_)
  clear hK K
  refine norm_ (a' := ?_) ?_ ?_
  rotate_left
  ·show Act.put _ (some 120) _ = _
   simp only [pz]
   rfl
  refine pu 12 108 (Go.ba 17 8191) (by kernel_rfl) ?_
  refine pu 13 121 (Go.ba 17 16383) (by kernel_rfl) ?_
  refine pu 14 122 (Go.ba 17 32767) (by kernel_rfl) ?_
  refine pu 15 16 (Go.ba 17 65535) (by kernel_rfl) ?_
  refine pu 16 17 (Go.ba 17 131071) (by kernel_rfl) ?_
  refine done_ (by kernel_rfl) ?_
  go_wp2_with (((with_reducible refine gate_callee (f := 12) rfl ?_); (try (refine gate_guard (by rfl) ?_; dsimp only)); refine goesL_ (some 126) rfl rfl Try.func12 (by kernel_rfl) rfl #[.slice A2 mm.length c2, .slice A4 mm.length c4] rfl (by (try simp only [List.map_toArray, List.map_cons, List.map_nil]); first | done | rfl) ?_; (with_reducible refine (payofflaw03_same.calls (mm.length + 1) A2 c2 mm A4 c4 mm true _ (Kd.R_reads' RO2.out).2.2 (Kd.R_reads' RO2.out).2.1 (Kd.R_reads' RO4.out).2.2 (Kd.R_reads' RO4.out).2.1 (same_self mm (by have := HML.out; omega) _ (by omega))).mono ?_); rintro e wv10_ ⟨rfl, hd⟩; have hb := hd.below; refine ⟨_, rfl, ?_⟩; replace HB := ak (below_step HB.out hb); replace BK1 := ak (blk_below BK1.out hb); replace RO2 := ak (Kd.R_below RO2.out hb); replace RO5 := ak (Kd.R_below RO5.out hb); replace RO6 := ak (Kd.R_below RO6.out hb); replace RO4 := ak (Kd.R_below RO4.out hb); clear hb hd))
  refine bodyPost_ret (results_tmp3 rfl _ _ _) rfl ?_
  refine ⟨.slice A2 mm.length c2, .slice none 0 0, mm, [], rfl, ⟨Kd.R_lower RO2.out SZ2.out, Kd.R_nil _ _ _ _ _, HML.out, by simp, HB.out⟩, ?_⟩
  unfold Ans
  rw [if_neg (by decide), if_neg (by decide), if_pos rfl, ← HTT.out, ← HDD.out]
  exact ⟨rfl, _, _, HK.out⟩
theorem answer.calls (kd n : Int) (A0 : Option Addr) (c0 : Nat) (l0 : List S32) (w : World) (hr0 : Kd.C k32 w A0 l0.length l0) (hc0 : l0.length ≤ c0) (hsz : l0.length ≤ 1048576) (hwf : WfP l0) :
  Calls Try.prog 30 #[.agg #[.int .i64 kd, .slice A0 l0.length c0, .int .i64 n]] w fun e w' => ∃ v1 v2 f t, e = .returned (.tuple #[v1, v2, .bool true]) ∧ AnsOut w w' v1 v2 f t ∧ Ans kd n l0 f t := by
 by_cases h1 : kd = 1
 ·subst h1; exact answer.net n A0 c0 l0 w hr0 hc0 hsz hwf
 by_cases h2 : kd = 2
 ·subst h2; exact answer.tot n A0 c0 l0 w hr0 hc0 hsz hwf
 by_cases h3 : kd = 3
 ·subst h3; exact answer.merge0 n A0 c0 l0 w hr0 hc0 hsz hwf
 by_cases h4 : kd = 4
 ·subst h4; exact answer.upto n A0 c0 l0 w hr0 hc0 hsz hwf
 exact answer.any kd h1 h2 h3 h4 n A0 c0 l0 w hr0 hc0 hsz hwf
theorem size55 : (Try.prog.info? 55).map (fun i => i.size) = some 3 := by kernel_rfl
theorem size22 : (Try.prog.info? 22).map (fun i => i.size) = some 1 := by kernel_rfl
theorem Ch.other {lo hi g : Nat} {w w1 w2 : World} (h : Ch lo hi w w1) (ho : Other g w1 w2) (hg : w.heap.size ≤ g) : Ch lo hi w w2 :=
 ⟨ho.os.trans h.os, ho.tape.trans h.tape, ho.output.trans h.output, by rw [ho.size]; exact h.size, fun k hk hx => (ho.block k (by omega)).trans (h.block k hk hx)⟩
theorem wfP_tw {l : List S32} (h : WfP l) : WfP (l.map twF) := fun x hx => by
 obtain ⟨y, hy, rfl⟩ := List.mem_map.1 hx
 have h1 := tw_range y.f2
 refine ⟨(h y hy).1, ?_⟩
 simp only [Lit.wf, Bool.and_eq_true, decide_eq_true_eq]
 exact h1
theorem answer_at (kd n : Int) (A0 : Option Addr) (c0 : Nat) (l0 : List S32) (L : Nat) (hL : l0.length = L) (w : World) (hr0 : Kd.C k32 w A0 L l0) (hc0 : L ≤ c0) (hsz : L ≤ 1048576) (hwf : WfP l0) :
  Calls Try.prog 30 #[.agg #[.int .i64 kd, .slice A0 L c0, .int .i64 n]] w fun e w' => ∃ v1 v2 f t, e = .returned (.tuple #[v1, v2, .bool true]) ∧ AnsOut w w' v1 v2 f t ∧ Ans kd n l0 f t := by
 subst hL
 exact answer.calls kd n A0 c0 l0 w hr0 hc0 hsz hwf
set_option maxHeartbeats 8000000 in
theorem turned.calls (kd n : Int) (g c6 : Nat) (l0 : List S32) (lo hi : Nat) (w : World) (hbt : Bt k32 32 w lo hi (.slice (some ⟨g, 0, none⟩) (l0.length + 3) c6) (l0 ++ marks l0.length)) (hsz : l0.length ≤ 1048576) (hwf : WfP l0) :
  Calls Try.prog 31 #[.slice (some ⟨g, 0, none⟩) (l0.length + 3) c6, .int .i64 (l0.length : Int), .agg #[.int .i64 kd, .slice (some ⟨g, 0, none⟩) l0.length c6, .int .i64 n]] w fun e w' => e = .returned (.bool true) ∧ Bt k32 32 w' lo hi (.slice (some ⟨g, 0, none⟩) (l0.length + 3) c6) (l0 ++ marks l0.length) ∧ Ch lo hi w w' := by
 have HR := ak hbt.r
 have HG := ak (show ∀ k, some g = some k → lo ≤ k ∧ k < hi from fun k hk => hbt.own k hk)
 have HCC := ak (show l0.length + 3 ≤ c6 from (Kd.R_reads' hbt.r).2.1)
 have hcc : ((l0.length + 3 : Nat) : Int) ≤ (c6 : Int) := by have := HCC.out; omega
 have HWT := ak (wfP_tw hwf)
 have HTT := ak (twF_twF (l := l0) (fun x hx => by
  have h2 := (hwf x hx).2
  simp only [Lit.wf, Bool.and_eq_true, decide_eq_true_eq] at h2
  exact h2))
 go_enter Try.func31, Try.ntmps31
 go_wp2_with (((with_reducible refine gate_dst (N := 5) rfl ?_); (try (refine gate_guard (by rfl) ?_; dsimp only)); refine box_event ?hg (N := 5) ?hd (cs := #[.int .i64 kd, .slice (some ⟨g, 0, none⟩) l0.length c6, .int .i64 n]) (t := 55) ?hr ?_; (case hd => rfl); (case hg => rfl); (case hr => first | (go_simp; done) | (go_simp; rfl)); intro g5 hg5 w4 hbox hb; have HR2 := ak (Kd.R_below HR.out hb); have HC := ak (Ch.of_below (lo := lo) (hi := hi) hb); have BX0 := ak hbox; have GB0 := ak (show hi ≤ g5 by rw [hg5]; exact hbt.sz); clear HR hbox hb hg5; have HR := HR2; clear HR2))
 go_loopw [7] (fun i wr => ∃ j : Nat, i = .int .i64 (j : Int) ∧ Aside0 (j ≤ l0.length) ∧ Aside0 (Kd.R k32 32 wr lo (fun k => k < hi) (.slice (some ⟨g, 0, none⟩) (l0.length + 3) c6) (tnd l0 (marks l0.length) j)) ∧ Aside0 (Ch lo hi w wr) ∧ Aside0 (wr.heap[g5]? = some (.cells #[.int .i64 kd, .slice (some ⟨g, 0, none⟩) l0.length c6, .int .i64 n] 55 (0, 0)))) (fun i _ => l0.length - (intOf i).toNat)
 case atStart => exact ⟨0, rfl, ⟨by omega⟩, ⟨by rw [tnd_zero]; exact HR.out⟩, HC, BX0⟩
 case round =>
  clear HR HC BX0
  obtain ⟨j, rfl, hj, HR, HC, BX0⟩ := hrel
  by_cases hlt : j < l0.length
  ·have hltm : j < (l0).length := by rw [(rfl : l0.length = l0.length)]; exact hlt
   obtain ⟨c, hcl, hcM, hcc, _⟩ := Kd.R_elem HR.out z32 (j : Int) (by omega) (by omega)
   rw [Int.toNat_natCast, tnd_get _ _ j hltm] at hcM
   obtain rfl := k32_openM hcM
   rw [Int.toNat_natCast] at hcc
   have HCL := ak hcc
   have hb1 : (0 : Int) ≤ (j : Int) := by omega
   have hb2 : (j : Int) < (l0.length : Int) := by omega
   have hb3 : (j : Int) < ((l0.length + 3 : Nat) : Int) := by omega
   clear hcM hcl hcc
   go_wp2_with (first | ((with_reducible refine gate_dst (N := 22) rfl ?_); (try (refine gate_guard (by rfl) ?_; dsimp only)); refine ld_event rfl rfl (by first | rfl | (go_simp; done) | (go_simp; rfl)) Try.underlying3 trivial (.int .i64 (l0)[j].f2) (HCL.out 2 _ rfl) ?_) | ((with_reducible refine gate_store (t := 3) (p := 25) rfl ?_); refine Kd.R_store k32 (w0 := wr) lo rfl rfl 3 (.tmp 25) (.tmp 23) rfl 32 (j : Int) 2 (tnd l0 (marks l0.length) j) (twF (l0)[j]) (.int .i64 (tw (l0)[j].f2)) [.int .i64 (tw (l0)[j].f2)] [.int .i64 (l0)[j].f0, .string (l0)[j].f1, .int .i64 (l0)[j].f2] (fun k => k < hi) (fun _ => False) (by first | rfl | (go_simp; done) | (go_simp; rfl)) (by rw [Int.toNat_natCast]; rfl) rfl rfl (by kernel_rfl) (by simp [Value.oneCell']) HR.out (by omega) (by omega) rfl (fun q u hq => HCL.out q u hq) (Nat.le_refl 3) (k32_mkM _ _ _ (twF (l0)[j])) (fun _ hk => hk.elim) (Below.refl _ _) ?_; intro w3 ho3 hb3 hg3; rw [Int.toNat_natCast, tnd_set _ _ j (by rw [(rfl : l0.length = l0.length)]; exact hlt)] at ho3; have HC' := ak (Ch.trans HC.out (Ch.of_grown hg3 (fun k hk => HG.out k hk))); have BY0 := ak (Ch.blk (Ch.of_grown hg3 (fun k hk => HG.out k hk)) BX0.out (by have := GB0.out; omega)); clear HR HC BX0; have HR := ak ho3; have HC := HC'; have BX0 := BY0; clear ho3 hb3 hg3 HC' BY0))
   go_roundw
   case rel => exact ⟨j + 1, by go_num, ⟨by omega⟩, HR, HC, BX0⟩
   case measure => simp [intOf]; omega
  ·have hb2 : ¬ (j : Int) < (l0.length : Int) := by omega
   have hj3 : j = (l0).length := by have := hj.out; rw [(rfl : l0.length = l0.length)]; omega
   rw [hj3, tnd_all] at HR
   obtain ⟨wo, rfl⟩ : ∃ wo : World, wo = wr := ⟨_, rfl⟩
   obtain ⟨M, hM⟩ : ∃ M, M = l0.map twF := ⟨_, rfl⟩
   have HML := ak (show M.length = l0.length by rw [hM, List.length_map])
   have HMM := ak (show M.map twF = l0 by rw [hM]; exact HTT.out)
   have HWM := ak (show WfP M by rw [hM]; exact HWT.out)
   rw [← hM] at HR
   clear hM
   go_upto_region 7 with (first | ((with_reducible refine gate_dst (N := 8) rfl ?_); (try (refine gate_guard (by rfl) ?_; dsimp only)); refine box_event ?hg (N := 8) ?hd (cs := #[.int .i64 0, .slice none 0 0, .int .i64 0]) (t := 55) ?hr ?_; (case hd => rfl); (case hg => rfl); (case hr => first | (go_simp; done) | (go_simp; rfl)); intro g8 hg8 w4 hbox hb; have HR2 := ak (Kd.R_below HR.out hb); have HC2 := ak (HC.out.trans (Ch.of_below hb)); have BZ0 := ak (blk_below BX0.out hb); have BX1 := ak hbox; have GB1 := ak (show hi ≤ g8 by rw [hg8]; have := HC.out.size; have := hbt.sz; omega); have GW := ak (show w.heap.size ≤ g8 by rw [hg8]; exact HC.out.size); have NE := ak (show g5 ≠ g8 by rw [hg8]; have := blk_lt BX0.out; omega); clear HR HC BX0 hbox hb; have HR := HR2; have HC := HC2; have BX0 := BZ0; clear HR2 HC2 BZ0) | ((with_reducible refine gate_dst (N := 26) rfl ?_); (try (refine gate_guard (by rfl) ?_; dsimp only)); refine ldw_event rfl rfl (by first | rfl | (go_simp; done) | (go_simp; rfl)) Try.underlying55 ⟨_, rfl⟩ (cs := [.int .i64 kd, .slice (some ⟨g, 0, none⟩) l0.length c6, .int .i64 n]) BX0.out size55 ?_) | ((with_reducible refine gate_store (t := 55) (p := 8) rfl ?_); refine stw_event rfl rfl rfl (g := g8) (by first | rfl | (go_simp; done) | (go_simp; rfl)) (cs := [.int .i64 kd, .slice (some ⟨g, 0, none⟩) l0.length c6, .int .i64 n]) (by first | rfl | (go_simp; done) | (go_simp; rfl)) BX1.out size55 rfl (by intro x hx; simp at hx; rcases hx with rfl | rfl | rfl <;> rfl) ?_; intro w4 hbk ho; have HR2 := ak (Kd.R_mono (Kd.R_move (Kd.R_bound HR.out) (fun k hk => ho.block k (by have := hk.1; have := GB1.out; omega))) (fun k hk => hk.1)); have HC2 := ak (Ch.other HC.out ho GW.out); have BZ0 := ak (Other.blk ho BX0.out NE.out); clear HR HC BX0 BX1; have HR := HR2; have HC := HC2; have BX0 := BZ0; have BX1 := ak hbk; clear HR2 HC2 BZ0 hbk ho) | ((with_reducible refine gate_store (t := 22) (p := 30) rfl ?_); refine st_event rfl rfl rfl (g := g8) (j := 1) (by first | rfl | (go_simp; done) | (go_simp; rfl)) (u := .slice (some ⟨g, 0, none⟩) l0.length c6) (by first | rfl | (go_simp; done) | (go_simp; rfl)) BX1.out 1 size22 rfl (by simp) (by simp [Value.cells, Value.oneCell']) #[.int .i64 kd, .slice (some ⟨g, 0, none⟩) l0.length c6, .int .i64 n] rfl ?_; intro w4 hbk ho; have HR2 := ak (Kd.R_mono (Kd.R_move (Kd.R_bound HR.out) (fun k hk => ho.block k (by have := hk.1; have := GB1.out; omega))) (fun k hk => hk.1)); have HC2 := ak (Ch.other HC.out ho GW.out); have BZ0 := ak (Other.blk ho BX0.out NE.out); clear HR HC BX0 BX1; have HR := HR2; have HC := HC2; have BX0 := BZ0; have BX1 := ak hbk; clear HR2 HC2 BZ0 hbk ho))
   have hct := (Kd.R_reads' (show Kd.R k32 32 _ lo (fun k => k < hi) (.slice (some ⟨g, 0, none⟩) l0.length c6) M from by
    have h := Kd.R_take HR.out (m := l0.length) (by rw [List.length_append, HML.out]; omega)
    rwa [List.take_left' HML.out] at h)).2.2
   rw [HML.out] at hct
   have HT := ak hct
   clear hct
   go_upto_region 8 with (first | ((with_reducible refine gate_dst (N := 32) rfl ?_); (try (refine gate_guard (by rfl) ?_; dsimp only)); refine ldw_event rfl rfl (by first | rfl | (go_simp; done) | (go_simp; rfl)) Try.underlying55 ⟨_, rfl⟩ (cs := [.int .i64 kd, .slice (some ⟨g, 0, none⟩) l0.length c6, .int .i64 n]) BX1.out size55 ?_) | ((with_reducible refine gate_callee (f := 30) rfl ?_); (try (refine gate_guard (by rfl) ?_; dsimp only)); refine goesL_ (some 33) rfl rfl Try.func30 (by kernel_rfl) rfl #[.agg #[.int .i64 kd, .slice (some ⟨g, 0, none⟩) l0.length c6, .int .i64 n]] rfl (by (try simp only [List.map_toArray, List.map_cons, List.map_nil]); first | done | rfl) ?_; (with_reducible refine (answer_at kd n (some ⟨g, 0, none⟩) c6 M l0.length HML.out _ HT.out (by have := HCC.out; omega) hsz HWM.out).mono ?_); rintro e w5 ⟨v1, v2, f, t, rfl, hao, hans⟩; refine ⟨_, rfl, ?_⟩; have hb := hao.hb; have HR2 := ak (Kd.R_below HR.out hb); have HC2 := ak (HC.out.trans (Ch.of_below hb)); have BZ0 := ak (blk_below BX0.out hb); have BZ1 := ak (blk_below BX1.out hb); clear HR HC BX0 BX1 HT hao hans hb; have HR := HR2; have HC := HC2; have BX0 := BZ0; have BX1 := BZ1; clear HR2 HC2 BZ0 BZ1))
   go_wp2_with fail
   go_loopw [12] (fun i wr => ∃ j : Nat, i = .int .i64 (j : Int) ∧ Aside0 (j ≤ l0.length) ∧ Aside0 (Kd.R k32 32 wr lo (fun k => k < hi) (.slice (some ⟨g, 0, none⟩) (l0.length + 3) c6) (tnd M (marks l0.length) j)) ∧ Aside0 (Ch lo hi w wr) ∧ Aside0 (wr.heap[g5]? = some (.cells #[.int .i64 kd, .slice (some ⟨g, 0, none⟩) l0.length c6, .int .i64 n] 55 (0, 0))) ∧ Aside0 (wr.heap[g8]? = some (.cells #[.int .i64 kd, .slice (some ⟨g, 0, none⟩) l0.length c6, .int .i64 n] 55 (0, 0)))) (fun i _ => l0.length - (intOf i).toNat)
   case atStart => exact ⟨0, rfl, ⟨by omega⟩, ⟨by rw [tnd_zero]; exact HR.out⟩, HC, BX0, BX1⟩
   case round =>
    clear HR HC BX0 BX1
    obtain ⟨j, rfl, hj, HR, HC, BX0, BX1⟩ := hrel
    by_cases hlt : j < l0.length
    ·have hltm : j < (M).length := by rw [HML.out]; exact hlt
     obtain ⟨c, hcl, hcM, hcc, _⟩ := Kd.R_elem HR.out z32 (j : Int) (by omega) (by omega)
     rw [Int.toNat_natCast, tnd_get _ _ j hltm] at hcM
     obtain rfl := k32_openM hcM
     rw [Int.toNat_natCast] at hcc
     have HCL := ak hcc
     have hb1 : (0 : Int) ≤ (j : Int) := by omega
     have hb2 : (j : Int) < (l0.length : Int) := by omega
     have hb3 : (j : Int) < ((l0.length + 3 : Nat) : Int) := by omega
     clear hcM hcl hcc
     go_wp2_with (first | ((with_reducible refine gate_dst (N := 46) rfl ?_); (try (refine gate_guard (by rfl) ?_; dsimp only)); refine ld_event rfl rfl (by first | rfl | (go_simp; done) | (go_simp; rfl)) Try.underlying3 trivial (.int .i64 (M)[j].f2) (HCL.out 2 _ rfl) ?_) | ((with_reducible refine gate_store (t := 3) (p := 49) rfl ?_); refine Kd.R_store k32 (w0 := wr) lo rfl rfl 3 (.tmp 49) (.tmp 47) rfl 32 (j : Int) 2 (tnd M (marks l0.length) j) (twF (M)[j]) (.int .i64 (tw (M)[j].f2)) [.int .i64 (tw (M)[j].f2)] [.int .i64 (M)[j].f0, .string (M)[j].f1, .int .i64 (M)[j].f2] (fun k => k < hi) (fun _ => False) (by first | rfl | (go_simp; done) | (go_simp; rfl)) (by rw [Int.toNat_natCast]; rfl) rfl rfl (by kernel_rfl) (by simp [Value.oneCell']) HR.out (by omega) (by omega) rfl (fun q u hq => HCL.out q u hq) (Nat.le_refl 3) (k32_mkM _ _ _ (twF (M)[j])) (fun _ hk => hk.elim) (Below.refl _ _) ?_; intro w3 ho3 hb3 hg3; rw [Int.toNat_natCast, tnd_set _ _ j (by rw [HML.out]; exact hlt)] at ho3; have HC' := ak (Ch.trans HC.out (Ch.of_grown hg3 (fun k hk => HG.out k hk))); have BY0 := ak (Ch.blk (Ch.of_grown hg3 (fun k hk => HG.out k hk)) BX0.out (by have := GB0.out; omega)); have BY1 := ak (Ch.blk (Ch.of_grown hg3 (fun k hk => HG.out k hk)) BX1.out (by have := GB1.out; omega)); clear HR HC BX0 BX1; have HR := ak ho3; have HC := HC'; have BX0 := BY0; have BX1 := BY1; clear ho3 hb3 hg3 HC' BY0 BY1))
     go_roundw
     case rel => exact ⟨j + 1, by go_num, ⟨by omega⟩, HR, HC, BX0, BX1⟩
     case measure => simp [intOf]; omega
    ·have hb2 : ¬ (j : Int) < (l0.length : Int) := by omega
     have hj3 : j = (M).length := by have := hj.out; rw [HML.out]; omega
     rw [hj3, tnd_all] at HR
     obtain ⟨wo, rfl⟩ : ∃ wo : World, wo = wr := ⟨_, rfl⟩
     go_wp2
     go_ret
     rw [HMM.out] at HR
     exact ⟨rfl, ⟨HR.out, hbt.le, Nat.le_trans hbt.sz HC.out.size⟩, HC.out⟩
end Go.Proofs.Ytdfndbegifdejaa.PFlowExact
end
section
namespace Go.Proofs.Ytdfndbegifdejaa.PFlowExact
open Go.RowKit Go.Proofs.YtdfndbegifdejaaW.PrintWords Go.Proofs.YtdfndbegifdejaaW.PrintLast Go.Proofs.YtdfndbegifdejaaW.PrintMore
attribute [local go_sem] max2_int min2_int max_two min_two max_three min_three max_four min_four
set_option linter.unusedVariables false
set_option linter.unusedSimpArgs false
attribute [local go_sem high] eqA32 eqA62
mutual
def payofflaw03_Held_whole.l0 : Nat → Int → List (S32) → List (S62) → Int → Option (Bool)
  | 0, _, _, _, _ => none
  | k + 1, x3, x311000, x311001, x311002 => if x3 < (x311000.length : Int) then (if 0 ≤ x3 then (if (!(((rd_T32 x311000 x3).f0) == x311002) || (!((((rd_T32 x311000 x3).f1).toList) == ([72, 69, 76, 68] : List UInt8)) || (!(((rd_T32 x311000 x3).f2) == 0)))) = true then (some false) else (payofflaw03_Held_whole.l0 k (wrap64 (x3 + 1)) x311000 x311001 x311002)) else (none)) else (payofflaw03_Held_whole.l1 k 0 x311000 x311001 x311002)
def payofflaw03_Held_whole.l1 : Nat → Int → List (S32) → List (S62) → Int → Option (Bool)
  | 0, _, _, _, _ => none
  | k + 1, x4, x311000, x311001, x311002 => if x4 < (x311001.length : Int) then (if 0 ≤ x4 then (if (!((((rd_T62 x311001 x4).f0).toList) == ([72, 69, 76, 68] : List UInt8)) || (!(((rd_T62 x311001 x4).f1) == x311002))) = true then (some false) else (payofflaw03_Held_whole.l1 k (wrap64 (x4 + 1)) x311000 x311001 x311002)) else (none)) else (some true)
end
def payofflaw03_Held_whole.f (k : Nat) (l0_0 : List (S32)) (l0_1 : List (S62)) (a0_2 : Int) : Option (Bool) := payofflaw03_Held_whole.l0 k 0 l0_0 l0_1 a0_2
set_option maxHeartbeats 8000000 in
set_option maxRecDepth 100000 in
theorem payofflaw03_Held_whole.calls (k : Nat) (A0_0 : Option Addr) (c0_0 : Nat) (l0_0 : List (S32)) (A0_1 : Option Addr) (c0_1 : Nat) (l0_1 : List (S62)) (a0_2 : Int) (r : Bool) (w : World) (hr0_0 : Kd.C k32 w A0_0 l0_0.length l0_0) (hc0_0 : l0_0.length ≤ c0_0) (hr0_1 : Kd.C k62 w A0_1 l0_1.length l0_1) (hc0_1 : l0_1.length ≤ c0_1) (h : payofflaw03_Held_whole.f k l0_0 l0_1 a0_2 = some r) :
  Calls Try.prog 32 #[.agg #[.slice A0_0 l0_0.length c0_0, .slice A0_1 l0_1.length c0_1, .int .i64 a0_2]] w fun e w' => e = .returned (.bool r) ∧ Below w.heap.size w w' := by
 have hu28 := Try.underlying28
 have hu32 := Try.underlying32
 have hu62 := Try.underlying62
 have HR0_0 := ak hr0_0
 have HC0_0 := ak hc0_0
 clear hr0_0 hc0_0
 have HR0_1 := ak hr0_1
 have HC0_1 := ak hc0_1
 clear hr0_1 hc0_1
 have HB := ak (Below.refl w.heap.size w)
 have H : (payofflaw03_Held_whole.l0 k 0 l0_0 l0_1 a0_2) = some r := h
 clear h
 have H' := ak H
 clear H
 go_enter Try.func32, Try.ntmps32
 go_wp2_with (first | ((with_reducible refine gate_dst (N := 1) rfl ?_); refine box_event ?hg (N := 1) ?hd (cs := #[.slice A0_0 l0_0.length c0_0, .slice A0_1 l0_1.length c0_1, .int .i64 a0_2]) (t := 28) ?hr ?_; (case hd => rfl); (case hg => rfl); (case hr => first | (go_simp; done) | (go_simp; rfl)); intro gb310 hg w2 hbox hb; have BK310 := ak (hbox); have GW310 := ak ((by rw [hg]; exact (below_size (by repeat (first | (with_reducible first | exact HB.out | apply below_alloc | apply pw_below_drewN | apply below_drew1) | exact HB.out))) : w.heap.size ≤ gb310)); have GE310 := ak ((by rw [hg]; exact (below_size (by repeat (first | (with_reducible first | exact HB.out | apply below_alloc | apply pw_below_drewN | apply below_drew1) | exact HB.out))) : w.heap.size ≤ gb310)); replace HB := ak (below_step (by repeat (first | (with_reducible first | exact HB.out | apply below_alloc | apply pw_below_drewN | apply below_drew1) | exact HB.out)) hb); clear hb hbox hg))
 repeat (go_quiet (first | ((with_reducible refine gate_dst (N := 1) rfl ?_); refine box_event ?hg (N := 1) ?hd (cs := #[.slice A0_0 l0_0.length c0_0, .slice A0_1 l0_1.length c0_1, .int .i64 a0_2]) (t := 28) ?hr ?_; (case hd => rfl); (case hg => rfl); (case hr => first | (go_simp; done) | (go_simp; rfl)); intro gb310 hg w2 hbox hb; have BK310 := ak (hbox); have GW310 := ak ((by rw [hg]; exact (below_size (by repeat (first | (with_reducible first | exact HB.out | apply below_alloc | apply pw_below_drewN | apply below_drew1) | exact HB.out))) : w.heap.size ≤ gb310)); have GE310 := ak ((by rw [hg]; exact (below_size (by repeat (first | (with_reducible first | exact HB.out | apply below_alloc | apply pw_below_drewN | apply below_drew1) | exact HB.out))) : w.heap.size ≤ gb310)); replace HB := ak (below_step (by repeat (first | (with_reducible first | exact HB.out | apply below_alloc | apply pw_below_drewN | apply below_drew1) | exact HB.out)) hb); clear hb hbox hg)); try go_wp2_with (first | ((with_reducible refine gate_dst (N := 1) rfl ?_); refine box_event ?hg (N := 1) ?hd (cs := #[.slice A0_0 l0_0.length c0_0, .slice A0_1 l0_1.length c0_1, .int .i64 a0_2]) (t := 28) ?hr ?_; (case hd => rfl); (case hg => rfl); (case hr => first | (go_simp; done) | (go_simp; rfl)); intro gb310 hg w2 hbox hb; have BK310 := ak (hbox); have GW310 := ak ((by rw [hg]; exact (below_size (by repeat (first | (with_reducible first | exact HB.out | apply below_alloc | apply pw_below_drewN | apply below_drew1) | exact HB.out))) : w.heap.size ≤ gb310)); have GE310 := ak ((by rw [hg]; exact (below_size (by repeat (first | (with_reducible first | exact HB.out | apply below_alloc | apply pw_below_drewN | apply below_drew1) | exact HB.out))) : w.heap.size ≤ gb310)); replace HB := ak (below_step (by repeat (first | (with_reducible first | exact HB.out | apply below_alloc | apply pw_below_drewN | apply below_drew1) | exact HB.out)) hb); clear hb hbox hg)))
 go_loopg [3] k (fun kq v3 w' => ∃ (x3_1 : Int), v3 = .int .i64 x3_1 ∧ Aside0 (payofflaw03_Held_whole.l0 kq x3_1 l0_0 l0_1 a0_2 = some r) ∧ Aside0 (kq ≤ k) ∧ Aside0 (w'.heap[gb310]? = some (.cells #[(.slice A0_0 l0_0.length c0_0), (.slice A0_1 l0_1.length c0_1), .int .i64 a0_2] 28 (0, 0))) ∧ Aside0 (Below w.heap.size w w'))
 case atStart => exact ⟨(0), (by first | rfl | (simp; done) | (simp [*]; done)), H', ⟨Nat.le_refl _⟩, ⟨by (with_reducible repeat (first | refine blk_drewN ?_ _ | refine blk_drew ?_ | refine blk_alloc ?_ _)); exact BK310.out⟩, ⟨by repeat (first | (with_reducible first | exact HB.out | apply below_alloc | apply pw_below_drewN | apply below_drew1 | refine below_set ?_ GE310.out) | exact HB.out)⟩⟩
 case round =>
  clear H'
  try clear p2
  obtain ⟨x3_1, rfl, HA, HK1, BK310, HB⟩ := hrel
  cases gk with
  | zero => exact absurd HA.out (by simp [payofflaw03_Held_whole.l0])
  | succ k1 =>
   have H := HA.out
   clear HA
   simp only [payofflaw03_Held_whole.l0] at H
   by_cases c3 : x3_1 < (l0_0.length : Int)
   ·rw [if_pos c3] at H
    have c3b0 := decide_eq_true c3
    clear c3
    by_cases c4 : 0 ≤ x3_1
    ·rw [if_pos c4] at H
     have c4b0 := decide_eq_true c4
     clear c4
     by_cases c5 : (!(((rd_T32 l0_0 x3_1).f0) == a0_2) || (!((((rd_T32 l0_0 x3_1).f1).toList) == ([72, 69, 76, 68] : List UInt8)) || (!(((rd_T32 l0_0 x3_1).f2) == 0)))) = true
     ·rw [if_pos c5] at H
      have c5b0 : (!(((rd_T32 l0_0 x3_1).f0) == a0_2) || (!((((rd_T32 l0_0 x3_1).f1).toList) == ([72, 69, 76, 68] : List UInt8)) || (!(((rd_T32 l0_0 x3_1).f2) == 0)))) = true := c5
      clear c5
      obtain rfl := Option.some.inj H
      have hcz6_0 : wr.cell? ⟨gb310, 0, none⟩ = some (.slice A0_0 l0_0.length c0_0) := (blk_cell BK310.out 0).trans rfl
      have hcz6_1 : wr.cell? ⟨gb310, 1, none⟩ = some (.slice A0_1 l0_1.length c0_1) := (blk_cell BK310.out 1).trans rfl
      have hcz6_2 : wr.cell? ⟨gb310, 2, none⟩ = some (.int .i64 a0_2) := (blk_cell BK310.out 2).trans rfl
      have hfz6_0 := blk_frozen BK310.out 0
      have hfz6_1 := blk_frozen BK310.out 1
      have hfz6_2 := blk_frozen BK310.out 2
      have p311 : 0 ≤ (x3_1 : Int) := of_decide_eq_true (by first | (with_reducible assumption) | assumption)
      have q311 : x3_1 < (l0_0.length : Int) := of_decide_eq_true (by first | (with_reducible assumption) | assumption)
      obtain ⟨ad311, e311, hx311_0, hx311_1, hx311_2⟩ := at_T32 HR0_0.out x3_1 p311 q311
      cases e311
      replace hx311_0 := (HB.out.cell (World.block_lt_of_cell? w _ hx311_0)).trans hx311_0
      replace hx311_1 := (HB.out.cell (World.block_lt_of_cell? w _ hx311_1)).trans hx311_1
      replace hx311_2 := (HB.out.cell (World.block_lt_of_cell? w _ hx311_2)).trans hx311_2
      replace p311 := eq_true p311
      replace q311 := eq_true q311
      go_wp2
      repeat (go_quiet (fail); try go_wp2)
      go_ret
      exact ⟨by first | rfl | (simp [errW_none, errW_some] <;> rfl) | (simp [*, errW_none, errW_some] <;> rfl), by repeat (first | (with_reducible first | exact HB.out | apply below_alloc | apply pw_below_drewN | apply below_drew1 | refine below_set ?_ GE310.out) | exact HB.out)⟩
     ·rw [if_neg c5] at H
      have c5b0 : (!(((rd_T32 l0_0 x3_1).f0) == a0_2) || (!((((rd_T32 l0_0 x3_1).f1).toList) == ([72, 69, 76, 68] : List UInt8)) || (!(((rd_T32 l0_0 x3_1).f2) == 0)))) = false := by simpa using c5
      clear c5
      have H' := ak H
      clear H
      have hcz7_0 : wr.cell? ⟨gb310, 0, none⟩ = some (.slice A0_0 l0_0.length c0_0) := (blk_cell BK310.out 0).trans rfl
      have hcz7_1 : wr.cell? ⟨gb310, 1, none⟩ = some (.slice A0_1 l0_1.length c0_1) := (blk_cell BK310.out 1).trans rfl
      have hcz7_2 : wr.cell? ⟨gb310, 2, none⟩ = some (.int .i64 a0_2) := (blk_cell BK310.out 2).trans rfl
      have hfz7_0 := blk_frozen BK310.out 0
      have hfz7_1 := blk_frozen BK310.out 1
      have hfz7_2 := blk_frozen BK310.out 2
      have p311 : 0 ≤ (x3_1 : Int) := of_decide_eq_true (by first | (with_reducible assumption) | assumption)
      have q311 : x3_1 < (l0_0.length : Int) := of_decide_eq_true (by first | (with_reducible assumption) | assumption)
      obtain ⟨ad311, e311, hx311_0, hx311_1, hx311_2⟩ := at_T32 HR0_0.out x3_1 p311 q311
      cases e311
      replace hx311_0 := (HB.out.cell (World.block_lt_of_cell? w _ hx311_0)).trans hx311_0
      replace hx311_1 := (HB.out.cell (World.block_lt_of_cell? w _ hx311_1)).trans hx311_1
      replace hx311_2 := (HB.out.cell (World.block_lt_of_cell? w _ hx311_2)).trans hx311_2
      replace p311 := eq_true p311
      replace q311 := eq_true q311
      go_wp2
      repeat (go_quiet (fail); try go_wp2)
      go_roundg k1
      case measure => have := HK1.out; omega
      case rel => exact ⟨(wrap64 (x3_1 + 1)), (by first | rfl | (simp; done) | (simp [*]; done)), H', ⟨by have := HK1.out; omega⟩, ⟨by (with_reducible repeat (first | refine blk_drewN ?_ _ | refine blk_drew ?_ | refine blk_alloc ?_ _)); exact BK310.out⟩, ⟨by repeat (first | (with_reducible first | exact HB.out | apply below_alloc | apply pw_below_drewN | apply below_drew1 | refine below_set ?_ GE310.out) | exact HB.out)⟩⟩
    ·rw [if_neg c4] at H
     exact absurd H (by simp)
   ·rw [if_neg c3] at H
    have c3b0 := decide_eq_false c3
    clear c3
    have H' := ak H
    clear H
    have hcz8_0 : wr.cell? ⟨gb310, 0, none⟩ = some (.slice A0_0 l0_0.length c0_0) := (blk_cell BK310.out 0).trans rfl
    have hcz8_1 : wr.cell? ⟨gb310, 1, none⟩ = some (.slice A0_1 l0_1.length c0_1) := (blk_cell BK310.out 1).trans rfl
    have hcz8_2 : wr.cell? ⟨gb310, 2, none⟩ = some (.int .i64 a0_2) := (blk_cell BK310.out 2).trans rfl
    have hfz8_0 := blk_frozen BK310.out 0
    have hfz8_1 := blk_frozen BK310.out 1
    have hfz8_2 := blk_frozen BK310.out 2
    go_wp2
    repeat (go_quiet (fail); try go_wp2)
    go_loopg [4] k1 (fun kq v4 w' => ∃ (x4_2 : Int), v4 = .int .i64 x4_2 ∧ Aside0 (payofflaw03_Held_whole.l1 kq x4_2 l0_0 l0_1 a0_2 = some r) ∧ Aside0 (kq ≤ k1) ∧ Aside0 (w'.heap[gb310]? = some (.cells #[(.slice A0_0 l0_0.length c0_0), (.slice A0_1 l0_1.length c0_1), .int .i64 a0_2] 28 (0, 0))) ∧ Aside0 (Below w.heap.size w w'))
    case atStart => exact ⟨(0), (by first | rfl | (simp; done) | (simp [*]; done)), H', ⟨Nat.le_refl _⟩, ⟨by (with_reducible repeat (first | refine blk_drewN ?_ _ | refine blk_drew ?_ | refine blk_alloc ?_ _)); exact BK310.out⟩, ⟨by repeat (first | (with_reducible first | exact HB.out | apply below_alloc | apply pw_below_drewN | apply below_drew1 | refine below_set ?_ GE310.out) | exact HB.out)⟩⟩
    case round =>
     clear H'
     try clear p2
     try clear c3
     try clear c3b0
     try clear p3
     try clear q3
     try clear hx3
     try clear c4
     try clear c4b0
     try clear c5
     try clear c5b0
     try clear p6
     try clear hcz6_0
     try clear hcz6_1
     try clear hcz6_2
     try clear hcz7_0
     try clear hcz7_1
     try clear hcz7_2
     try clear hcz8_0
     try clear hcz8_1
     try clear hcz8_2
     try clear hfz6_0
     try clear hfz6_1
     try clear hfz6_2
     try clear hfz7_0
     try clear hfz7_1
     try clear hfz7_2
     try clear hfz8_0
     try clear hfz8_1
     try clear hfz8_2
     try clear hx311_0
     try clear hx311_1
     try clear hx311_2
     try clear p2
     try clear p311
     try clear q311
     obtain ⟨x4_2, rfl, HA, HK2, BK310, HB⟩ := hrel
     cases gk with
     | zero => exact absurd HA.out (by simp [payofflaw03_Held_whole.l1])
     | succ k2 =>
      have H := HA.out
      clear HA
      simp only [payofflaw03_Held_whole.l1] at H
      by_cases c9 : x4_2 < (l0_1.length : Int)
      ·rw [if_pos c9] at H
       have c9b0 := decide_eq_true c9
       clear c9
       by_cases c10 : 0 ≤ x4_2
       ·rw [if_pos c10] at H
        have c10b0 := decide_eq_true c10
        clear c10
        by_cases c11 : (!((((rd_T62 l0_1 x4_2).f0).toList) == ([72, 69, 76, 68] : List UInt8)) || (!(((rd_T62 l0_1 x4_2).f1) == a0_2))) = true
        ·rw [if_pos c11] at H
         have c11b0 : (!((((rd_T62 l0_1 x4_2).f0).toList) == ([72, 69, 76, 68] : List UInt8)) || (!(((rd_T62 l0_1 x4_2).f1) == a0_2))) = true := c11
         clear c11
         obtain rfl := Option.some.inj H
         have hcz12_0 : wr.cell? ⟨gb310, 0, none⟩ = some (.slice A0_0 l0_0.length c0_0) := (blk_cell BK310.out 0).trans rfl
         have hcz12_1 : wr.cell? ⟨gb310, 1, none⟩ = some (.slice A0_1 l0_1.length c0_1) := (blk_cell BK310.out 1).trans rfl
         have hcz12_2 : wr.cell? ⟨gb310, 2, none⟩ = some (.int .i64 a0_2) := (blk_cell BK310.out 2).trans rfl
         have hfz12_0 := blk_frozen BK310.out 0
         have hfz12_1 := blk_frozen BK310.out 1
         have hfz12_2 := blk_frozen BK310.out 2
         have p312 : 0 ≤ (x4_2 : Int) := of_decide_eq_true (by first | (with_reducible assumption) | assumption)
         have q312 : x4_2 < (l0_1.length : Int) := of_decide_eq_true (by first | (with_reducible assumption) | assumption)
         obtain ⟨ad312, e312, hx312_0, hx312_1⟩ := at_T62 HR0_1.out x4_2 p312 q312
         cases e312
         replace hx312_0 := (HB.out.cell (World.block_lt_of_cell? w _ hx312_0)).trans hx312_0
         replace hx312_1 := (HB.out.cell (World.block_lt_of_cell? w _ hx312_1)).trans hx312_1
         replace p312 := eq_true p312
         replace q312 := eq_true q312
         go_wp2
         repeat (go_quiet (fail); try go_wp2)
         go_ret
         exact ⟨by first | rfl | (simp [errW_none, errW_some] <;> rfl) | (simp [*, errW_none, errW_some] <;> rfl), by repeat (first | (with_reducible first | exact HB.out | apply below_alloc | apply pw_below_drewN | apply below_drew1 | refine below_set ?_ GE310.out) | exact HB.out)⟩
        ·rw [if_neg c11] at H
         have c11b0 : (!((((rd_T62 l0_1 x4_2).f0).toList) == ([72, 69, 76, 68] : List UInt8)) || (!(((rd_T62 l0_1 x4_2).f1) == a0_2))) = false := by simpa using c11
         clear c11
         have H' := ak H
         clear H
         have hcz13_0 : wr.cell? ⟨gb310, 0, none⟩ = some (.slice A0_0 l0_0.length c0_0) := (blk_cell BK310.out 0).trans rfl
         have hcz13_1 : wr.cell? ⟨gb310, 1, none⟩ = some (.slice A0_1 l0_1.length c0_1) := (blk_cell BK310.out 1).trans rfl
         have hcz13_2 : wr.cell? ⟨gb310, 2, none⟩ = some (.int .i64 a0_2) := (blk_cell BK310.out 2).trans rfl
         have hfz13_0 := blk_frozen BK310.out 0
         have hfz13_1 := blk_frozen BK310.out 1
         have hfz13_2 := blk_frozen BK310.out 2
         have p312 : 0 ≤ (x4_2 : Int) := of_decide_eq_true (by first | (with_reducible assumption) | assumption)
         have q312 : x4_2 < (l0_1.length : Int) := of_decide_eq_true (by first | (with_reducible assumption) | assumption)
         obtain ⟨ad312, e312, hx312_0, hx312_1⟩ := at_T62 HR0_1.out x4_2 p312 q312
         cases e312
         replace hx312_0 := (HB.out.cell (World.block_lt_of_cell? w _ hx312_0)).trans hx312_0
         replace hx312_1 := (HB.out.cell (World.block_lt_of_cell? w _ hx312_1)).trans hx312_1
         replace p312 := eq_true p312
         replace q312 := eq_true q312
         go_wp2
         repeat (go_quiet (fail); try go_wp2)
         go_roundg k2
         case measure => have := HK1.out; have := HK2.out; omega
         case rel => exact ⟨(wrap64 (x4_2 + 1)), (by first | rfl | (simp; done) | (simp [*]; done)), H', ⟨by have := HK1.out; have := HK2.out; omega⟩, ⟨by (with_reducible repeat (first | refine blk_drewN ?_ _ | refine blk_drew ?_ | refine blk_alloc ?_ _)); exact BK310.out⟩, ⟨by repeat (first | (with_reducible first | exact HB.out | apply below_alloc | apply pw_below_drewN | apply below_drew1 | refine below_set ?_ GE310.out) | exact HB.out)⟩⟩
       ·rw [if_neg c10] at H
        exact absurd H (by simp)
      ·rw [if_neg c9] at H
       have c9b0 := decide_eq_false c9
       clear c9
       obtain rfl := Option.some.inj H
       have hcz14_0 : wr.cell? ⟨gb310, 0, none⟩ = some (.slice A0_0 l0_0.length c0_0) := (blk_cell BK310.out 0).trans rfl
       have hcz14_1 : wr.cell? ⟨gb310, 1, none⟩ = some (.slice A0_1 l0_1.length c0_1) := (blk_cell BK310.out 1).trans rfl
       have hcz14_2 : wr.cell? ⟨gb310, 2, none⟩ = some (.int .i64 a0_2) := (blk_cell BK310.out 2).trans rfl
       have hfz14_0 := blk_frozen BK310.out 0
       have hfz14_1 := blk_frozen BK310.out 1
       have hfz14_2 := blk_frozen BK310.out 2
       go_wp2
       repeat (go_quiet (fail); try go_wp2)
       go_ret
       exact ⟨by first | rfl | (simp [errW_none, errW_some] <;> rfl) | (simp [*, errW_none, errW_some] <;> rfl), by repeat (first | (with_reducible first | exact HB.out | apply below_alloc | apply pw_below_drewN | apply below_drew1 | refine below_set ?_ GE310.out) | exact HB.out)⟩
end Go.Proofs.Ytdfndbegifdejaa.PFlowExact
end
section
namespace Go.Proofs.Ytdfndbegifdejaa.PFlowExact
set_option linter.unusedVariables false
set_option linter.unusedSimpArgs false
open Go.RowKit Go.Proofs.YtdfndbegifdejaaW.PrintWords Go.Proofs.YtdfndbegifdejaaW.PrintLast Go.Proofs.YtdfndbegifdejaaW.PrintMore Go.Proofs.YtdfndbegifdejaaMine
attribute [local go_sem] max2_int min2_int max_two min_two max_three min_three max_four min_four
abbrev HeldV := List S32 × List S62 × Int
def KH : Kd HeldV := Kd.pair (Kd.slice 32 k32) (Kd.pair (Kd.slice 62 k62) (Kd.int .i64))
def hz : HeldV := ([], [], 0)
theorem info28 : (Try.prog.info? 28).map (fun i => (i.zero, i.size, i.bytes)) = some (some (.agg #[.slice none 0 0, .slice none 0 0, .int .i64 0]), 3, 56) := by kernel_rfl
def Whole (h : HeldV) : Prop := ∃ a b m, h = (List.replicate a (heldF m), List.replicate b (heldT m), m) ∧ a ≤ 1048576 ∧ b ≤ 1048576
theorem heldS_list : heldS.toList = ([72, 69, 76, 68] : List UInt8) := by kernel_rfl
theorem rdF (a : Nat) (x : S32) (n : Nat) (h : n < a) : rd_T32 (List.replicate a x) (n : Int) = x := by
 unfold rd_T32; simp [h]
theorem rdTt (a : Nat) (x : S62) (n : Nat) (h : n < a) : rd_T62 (List.replicate a x) (n : Int) = x := by
 unfold rd_T62; simp [h]
theorem whole_l1 (f : List S32) (b : Nat) (m : Int) (hb : b ≤ 1048576) : ∀ (d n k : Nat), n + d = b → d < k → payofflaw03_Held_whole.l1 k (n : Int) f (List.replicate b (heldT m)) m = some true := by
 intro d
 induction d with
 | zero =>
  intro n k hn hk
  obtain ⟨k, rfl⟩ : ∃ q, k = q + 1 := ⟨k - 1, by omega⟩
  simp only [payofflaw03_Held_whole.l1, List.length_replicate]
  rw [if_neg (by omega)]
 | succ d ih =>
  intro n k hn hk
  obtain ⟨k, rfl⟩ : ∃ q, k = q + 1 := ⟨k - 1, by omega⟩
  simp only [payofflaw03_Held_whole.l1, List.length_replicate]
  rw [if_pos (by omega), if_pos (by omega), rdTt b _ n (by omega), if_neg (by simp [heldT, heldS_list])]
  rw [wrap_nat (show n < b by omega) (by omega)]
  exact ih (n + 1) k (by omega) (by omega)
theorem whole_l0 (a b : Nat) (m : Int) (ha : a ≤ 1048576) (hb : b ≤ 1048576) : ∀ (d n k : Nat), n + d = a → d + b + 1 < k → payofflaw03_Held_whole.l0 k (n : Int) (List.replicate a (heldF m)) (List.replicate b (heldT m)) m = some true := by
 intro d
 induction d with
 | zero =>
  intro n k hn hk
  obtain ⟨k, rfl⟩ : ∃ q, k = q + 1 := ⟨k - 1, by omega⟩
  simp only [payofflaw03_Held_whole.l0, List.length_replicate]
  rw [if_neg (by omega)]
  exact whole_l1 _ b m hb b 0 k (by omega) (by omega)
 | succ d ih =>
  intro n k hn hk
  obtain ⟨k, rfl⟩ : ∃ q, k = q + 1 := ⟨k - 1, by omega⟩
  simp only [payofflaw03_Held_whole.l0, List.length_replicate]
  rw [if_pos (by omega), if_pos (by omega), rdF a _ n (by omega), if_neg (by simp [heldF, heldS_list])]
  rw [wrap_nat (show n < a by omega) (by omega)]
  exact ih (n + 1) k (by omega) (by omega)
theorem whole_f (a b : Nat) (m : Int) (ha : a ≤ 1048576) (hb : b ≤ 1048576) : payofflaw03_Held_whole.f (a + b + 2) (List.replicate a (heldF m)) (List.replicate b (heldT m)) m = some true := whole_l0 a b m ha hb a 0 _ (by omega) (by omega)
theorem KH_mk {w : World} {base : Nat} {ok : Nat → Prop} {f : List S32} {t : List S62} {m : Int} {fv tv : Value} (hf : Kd.R k32 32 w base ok fv f) (ht : Kd.R k62 62 w base ok tv t) : KH.M w base ok (f, t, m) [fv, tv, .int .i64 m] :=
 ⟨[fv], [tv, .int .i64 m], rfl, ⟨fv, rfl, hf⟩, ⟨[tv], [.int .i64 m], rfl, ⟨tv, rfl, ht⟩, rfl⟩⟩
theorem KH_open {w : World} {x : HeldV} {cs : List Value} (h : KH.K w x cs) : ∃ Af cf At ct, cs = [.slice Af x.1.length cf, .slice At x.2.1.length ct, .int .i64 x.2.2] ∧ x.1.length ≤ cf ∧ Kd.C k32 w Af x.1.length x.1 ∧ x.2.1.length ≤ ct ∧ Kd.C k62 w At x.2.1.length x.2.1 := by
 obtain ⟨_, _, rfl, ⟨Af, cf, rfl, h1, h2⟩, ⟨_, _, rfl, ⟨At, ct, rfl, h3, h4⟩, rfl⟩⟩ := h
 exact ⟨Af, cf, At, ct, rfl, h1, h2, h3, h4⟩
theorem k55_cells {w : World} {x : S55} {cs : List Value} (h : k55.K w x cs) : ∃ A c, cs = [.int .i64 x.f0, .slice A x.f1.length c, .int .i64 x.f2] ∧ x.f1.length ≤ c ∧ Kd.C k32 w A x.f1.length x.f1 := by
 obtain ⟨_, _, rfl, rfl, ⟨_, _, rfl, ⟨A, c, rfl, h1, h2⟩, rfl⟩⟩ := h
 exact ⟨A, c, rfl, h1, h2⟩
theorem add_two (ad : Addr) (n j : Nat) : (ad.add n).add j = ad.add (n + j) := by
 unfold Addr.add
 by_cases hn : n = 0 <;> by_cases hj : j = 0 <;> simp [hn, hj, Nat.add_assoc]
theorem at_ask {w : World} {A : Option Addr} {qs : List S55} (h : Kd.C k55 w A qs.length qs) (i : Nat) (hi : i < qs.length) : ∃ ad Ax cx, A = some ad ∧ CSat w (ad.add (i * 3)) [Value.int .i64 qs[i].f0, .slice Ax qs[i].f1.length cx, .int .i64 qs[i].f2] ∧ w.cell? ⟨(ad.add (i * 3)).block, (ad.add (i * 3)).off + 1, none⟩ = some (.slice Ax qs[i].f1.length cx) ∧ qs[i].f1.length ≤ cx ∧ Kd.C k32 w Ax qs[i].f1.length qs[i].f1 := by
 obtain ⟨ad, c, rfl, _, hK, hcc⟩ := Kd.C_get h (⟨0, [], 0⟩ : S55) (i : Int) (by omega) (by omega)
 rw [Int.toNat_natCast, List.getD_eq_getElem?_getD, List.getElem?_eq_getElem hi] at hK
 obtain ⟨Ax, cx, rfl, h1, h2⟩ := k55_cells hK
 rw [Int.toNat_natCast] at hcc
 refine ⟨ad, Ax, cx, rfl, fun j v hj => ?_, ?_, h1, h2⟩
 ·rw [add_two]; exact hcc j v hj
 ·rw [← add_field _ _ _ (by omega)]; exact hcc 1 _ rfl
theorem size28 : (Try.prog.info? 28).map (fun i => i.size) = some 3 := by kernel_rfl
theorem getD_mem {α : Type} (z : α) {l : List α} {j : Nat} (h : j < l.length) : l.getD j z ∈ l := by
 rw [List.getD_eq_getElem?_getD, List.getElem?_eq_getElem h]; exact List.getElem_mem h
theorem whole_ok (h : HeldV) (hw : Whole h) (Af : Option Addr) (cf : Nat) (At : Option Addr) (ct : Nat) (w : World) (h1 : h.1.length ≤ cf) (h2 : Kd.C k32 w Af h.1.length h.1) (h3 : h.2.1.length ≤ ct) (h4 : Kd.C k62 w At h.2.1.length h.2.1) :
  Calls Try.prog 32 #[.agg #[.slice Af h.1.length cf, .slice At h.2.1.length ct, .int .i64 h.2.2]] w fun e w' => e = .returned (.bool true) ∧ Below w.heap.size w w' := by
 obtain ⟨a, b, m, rfl, ha, hb⟩ := hw
 exact payofflaw03_Held_whole.calls (a + b + 2) Af cf _ At ct _ m true w h2 h1 h4 h3 (whole_f a b m ha hb)
theorem KH_reps2 {w : World} {base : Nat} {ok : Nat → Prop} {x1 x2 : HeldV} {a1 b1 c1 a2 b2 c2 : Value} (h1 : KH.M w base ok x1 [a1, b1, c1]) (h2 : KH.M w base ok x2 [a2, b2, c2]) : Reps (KH.M w base ok) KH.sz [x1, x2] [a1, b1, c1, a2, b2, c2] := by
 refine ⟨rfl, fun j p hj => ?_⟩
 match j, hj with
 | 0, hj => cases hj; exact h1
 | 1, hj => cases hj; exact h2
theorem KH_reps1 {w : World} {base : Nat} {ok : Nat → Prop} {x1 : HeldV} {a1 b1 c1 : Value} (h1 : KH.M w base ok x1 [a1, b1, c1]) : Reps (KH.M w base ok) KH.sz [x1] [a1, b1, c1] := by
 refine ⟨rfl, fun j p hj => ?_⟩
 match j, hj with
 | 0, hj => cases hj; exact h1
theorem below_of_none {w w1 : World} (h : w.grownBy w1 none) : Below w.heap.size w w1 := ⟨h.os, h.tape, h.output, h.size, fun k hk => h.block k hk (fun he => nomatch he)⟩
theorem Bt.other {α : Type} {d : Kd α} {e lo hi g : Nat} {w w' : World} {v : Value} {xs : List α} (h : Bt d e w lo hi v xs) (ho : Other g w w') (hg : hi ≤ g) : Bt d e w' lo hi v xs :=
 ⟨Kd.R_mono (Kd.R_move (Kd.R_bound h.r) (fun k hk => ho.block k (by have := hk.1; omega))) (fun k hk => hk.1), h.le, by rw [ho.size]; exact h.sz⟩
theorem c_full {w : World} {lo hi gf c6 : Nat} {l : List S32} (h : Bt k32 32 w lo hi (.slice (some ⟨gf, 0, none⟩) (l.length + 3) c6) (l ++ marks l.length)) : Kd.C k32 w (some ⟨gf, 0, none⟩) l.length l := by
 have h1 := Kd.R_take h.r (m := l.length) (by rw [List.length_append]; omega)
 rw [List.take_left] at h1
 exact (Kd.R_reads' h1).2.2
theorem untouched_ok (l : List S32) (hl : l.length ≤ 1048576) (A6 : Option Addr) (c6 : Nat) (A5 : Option Addr) (c5 : Nat) (w : World) {b6 b5 : Nat} {ok6 ok5 : Nat → Prop} (h6 : Kd.R k32 32 w b6 ok6 (.slice A6 (l.length + 3) c6) (l ++ marks l.length)) (h5 : Kd.R k32 32 w b5 ok5 (.slice A5 l.length c5) l) :
  Calls Try.prog 15 #[.slice A6 (l.length + 3) c6, .slice A5 l.length c5] w fun e w' => e = .returned (.bool true) ∧ Below w.heap.size w w' := by
 have hcall := payofflaw03_untouched.calls (l.length + 5) A6 c6 (l ++ marks l.length) A5 c5 l true w (Kd.R_reads' h6).2.2 (by rw [← (Kd.R_reads' h6).1]; exact (Kd.R_reads' h6).2.1) (Kd.R_reads' h5).2.2 (Kd.R_reads' h5).2.1 (untouched_room l (by omega) _ (by omega))
 rw [show (l ++ marks l.length).length = l.length + 3 by simp [marks]] at hcall
 refine hcall.mono ?_
 rintro e w' ⟨rfl, hd⟩
 exact ⟨rfl, hd.below⟩
set_option maxHeartbeats 16000000 in
set_option maxRecDepth 100000 in
theorem FlowExact.walk0 (A0 : Option Addr) (c0 : Nat) (qs : List S55) (w : World) (hr0 : Kd.C k55 w A0 qs.length qs) (hc0 : qs.length ≤ c0) (hall : ∀ x ∈ qs, x.f1.length ≤ 1048576 ∧ WfP x.f1) (hn : qs.length ≤ 1048576) :
  Calls Try.prog 9 #[.slice A0 qs.length c0] w fun e w' => e = .returned (.bool true) ∧ Below w.heap.size w w' := by
 have HR0 := ak hr0
 have HALL := ak hall
 have HB := ak (Below.refl w.heap.size w)
 clear hr0 hall
 go_enter Try.func9, Try.ntmps9
 go_wp2
 go_loopg [3, 4] qs.length (fun kx s3 s4 wr => ∃ (i : Nat) (hs : List HeldV), s4 = .int .i64 i ∧ i ≤ qs.length ∧ qs.length - i ≤ kx ∧ Aside0 (Kd.R KH 28 wr w.heap.size (fun _ => True) s3 hs) ∧ Aside0 (∀ h ∈ hs, Whole h) ∧ Aside0 (hs.length = 3 * i) ∧ Aside0 (Below w.heap.size w wr))
 case atStart => exact ⟨0, [], rfl, Nat.zero_le _, by omega, ⟨Kd.R_nil _ _ _ _ _⟩, ⟨fun h hh => nomatch hh⟩, ⟨rfl⟩, HB⟩
 case round =>
  clear HB
  obtain ⟨i, hs, rfl, hi, hkx, HH0, HW, HL, HB⟩ := hrel
  obtain ⟨wi, rfl⟩ : ∃ wi : World, wi = wr := ⟨_, rfl⟩
  by_cases hlt : i < qs.length
  ·have hltz : (i : Int) < (qs.length : Int) := by omega
   obtain ⟨q0, hq0⟩ : ∃ q0, q0 = (i + 1) % qs.length := ⟨_, rfl⟩
   have hqlt : q0 < qs.length := by rw [hq0]; exact Nat.mod_lt _ (by omega)
   have hqz : (q0 : Int) < (qs.length : Int) := by omega
   have hq00 : (0 : Int) ≤ (q0 : Int) := by omega
   have hi00 : (0 : Int) ≤ (i : Int) := by omega
   have hqz2 : ((i : Int) + 1) % (qs.length : Int) < (qs.length : Int) := Int.emod_lt_of_pos _ (by omega)
   have hqz3 : 0 ≤ ((i : Int) + 1) % (qs.length : Int) := Int.emod_nonneg _ (by omega)
   have hw1 : wrap64 ((i : Int) + 1) = ((i + 1 : Nat) : Int) := by unfold wrap64; omega
   have htm : Int.tmod (((i + 1 : Nat) : Int)) (qs.length : Int) = (q0 : Int) := by rw [hq0]; rfl
   have hnz : ((qs.length : Int) = 0) = False := eq_false (by omega)
   subst hq0
   obtain ⟨ad, Ax, cx, hA, hcs, hc1, hcx, hCx⟩ := at_ask HR0.out i hlt
   obtain ⟨ad', Ay, cy, hA', hct, _, hcy, hCy⟩ := at_ask HR0.out ((i + 1) % qs.length) hqlt
   subst hA
   injection hA' with hA'
   subst hA'
   have hXA := HALL.out _ (List.getElem_mem hlt)
   have hYA := HALL.out _ (List.getElem_mem hqlt)
   generalize qs[i] = x at hcs hc1 hcx hCx hXA
   generalize qs[(i + 1) % qs.length] = y at hct hcy hCy hYA
   have HCS := ak hcs
   have HC1 := ak hc1
   have HCT := ak hct
   have HCW := ak hcx
   have HCV := ak hcy
   have HCX := ak hCx
   have HCY := ak hCy
   have HXL := ak hXA.1
   have HXW := ak hXA.2
   have HYL := ak hYA.1
   have HYW := ak hYA.2
   have hxl : (x.f1.length : Int) ≤ 1048576 := by have := hXA.1; omega
   clear hcs hct hc1 hcx hcy hCx hCy hXA hYA
   have BH := ak (Bt.of HH0.out (below_size HB.out))
   have HB0 := ak HB.out
   clear HH0
   go_upto_region 12 with (first | ((with_reducible refine gate_dst (N := 28) rfl ?_); (try (refine gate_guard (by rfl) ?_; dsimp only)); refine ld_event rfl rfl (by first | rfl | (go_simp; done) | (go_simp; rfl)) Try.underlying22 trivial (.slice Ax x.f1.length cx) ((HB.out.cell (World.block_lt_of_cell? _ _ HC1.out)).trans HC1.out) ?_) | ((with_reducible refine gate_dst (N := 29) rfl ?_); (try (refine gate_guard (by rfl) ?_; dsimp only)); refine goesL_ (some 29) rfl rfl Try.func26 (by kernel_rfl) rfl #[.slice Ax x.f1.length cx] rfl (by (try simp only [List.map_toArray, List.map_cons, List.map_nil]); first | done | rfl) ?_; (with_reducible refine (payofflaw03_twin.calls Ax cx x.f1 x.f1 _ (Kd.C_below HCX.out HB.out) HCW.out (by have := HXL.out; unfold payofflaw03_twin.f; simp; omega)).mono ?_); rintro e a1 ⟨v5, rfl, ho, hb⟩; obtain ⟨A5, c5, rfl⟩ := Kd.R_slice ho; have hz_ := below_size HB.out; refine ⟨_, rfl, ?_⟩; replace HB := ak (below_step HB.out hb); have RW := ak (Bt.of ho hb.size); have OW := ak (BH.out.sz); replace BH := ak (Bt.below BH.out hb); clear hb ho hz_) | ((with_reducible refine gate_dst (N := 34) rfl ?_); (try (refine gate_guard (by rfl) ?_; dsimp only)); refine ld_event rfl rfl (by first | rfl | (go_simp; done) | (go_simp; rfl)) Try.underlying22 trivial (.slice Ax x.f1.length cx) ((HB.out.cell (World.block_lt_of_cell? _ _ HC1.out)).trans HC1.out) ?_) | ((with_reducible refine gate_dst (N := 35) rfl ?_); (try (refine gate_guard (by rfl) ?_; dsimp only)); refine goesL_ (some 35) rfl rfl Try.func10 (by kernel_rfl) rfl #[.slice Ax x.f1.length cx] rfl (by (try simp only [List.map_toArray, List.map_cons, List.map_nil]); first | done | rfl) ?_; (with_reducible refine (roomy.calls Ax cx x.f1 _ (Kd.C_below HCX.out HB.out) HCW.out (by have := HXL.out; omega)).mono ?_); rintro e a2 ⟨v6, rfl, ho, hb⟩; obtain ⟨A6, c6, rfl⟩ := Kd.R_slice ho; rw [show (x.f1 ++ marks x.f1.length).length = x.f1.length + 3 by simp [marks]] at ho ⊢; obtain ⟨gf, c6', he6, _, _, _, _⟩ := Kd.R_form ho (by simp [marks]); injection he6 with he6 _ he6c; subst he6 he6c; have hcap := (Kd.R_reads' ho).2.1; have HCAP := ak hcap; have hcapz : ((x.f1.length + 3 : Nat) : Int) ≤ (c6 : Int) := (by omega); have hcapz1 : (x.f1.length : Int) ≤ (c6 : Int) := (by omega); refine ⟨_, rfl, ?_⟩; replace HB := ak (below_step HB.out hb); replace BH := ak (Bt.below BH.out hb); replace OW := ak (OW.out); have RF := ak (Bt.of ho hb.size); have OF := ak (RW.out.sz); replace RW := ak (Bt.below RW.out hb); clear hb ho) | ((with_reducible refine gate_dst (N := 39) rfl ?_); (try (refine gate_guard (by rfl) ?_; dsimp only)); refine load_event rfl rfl (by first | rfl | (go_simp; done) | (go_simp; rfl)) Try.underlying55 ⟨_, rfl⟩ [.int .i64 x.f0, .slice Ax x.f1.length cx, .int .i64 x.f2] size55 (fun j v hj => (HB.out.cell (World.block_lt_of_cell? _ _ (HCS.out j v hj))).trans (HCS.out j v hj)) ?_) | ((with_reducible refine gate_dst (N := 7) rfl ?_); (try (refine gate_guard (by rfl) ?_; dsimp only)); refine box_event ?hg (N := 7) ?hd (cs := #[.int .i64 0, .slice none 0 0, .int .i64 0]) (t := 55) ?hr ?_; (case hd => rfl); (case hg => rfl); (case hr => first | (go_simp; done) | (go_simp; rfl)); intro g7 hg7 a3 hbox hb; replace HB := ak (below_step HB.out hb); replace BH := ak (Bt.below BH.out hb); replace RW := ak (Bt.below RW.out hb); replace OW := ak (OW.out); replace RF := ak (Bt.below RF.out hb); replace OF := ak (OF.out); have BK := ak (hbox); have GB := ak ((show a2.heap.size ≤ g7 by rw [hg7]; exact Nat.le_refl _)); clear hb hbox) | ((with_reducible refine gate_store (t := 55) (p := 7) rfl ?_); refine stw_event rfl rfl rfl (g := g7) (by first | rfl | (go_simp; done) | (go_simp; rfl)) (cs := [.int .i64 x.f0, .slice Ax x.f1.length cx, .int .i64 x.f2]) (by first | rfl | (go_simp; done) | (go_simp; rfl)) BK.out size55 rfl (by intro u hu; simp at hu; rcases hu with rfl | rfl | rfl <;> rfl) ?_; intro a4 hbk ho; replace HB := ak (Other.below ho HB.out (by have := GB.out; have := RF.out.le; have := OF.out; have := RW.out.le; have := OW.out; have := BH.out.le; omega)); replace BH := ak (Bt.other BH.out ho (by have := GB.out; have := RF.out.le; have := OF.out; have := RW.out.le; have := OW.out; omega)); replace RW := ak (Bt.other RW.out ho (by have := GB.out; have := RF.out.le; have := OF.out; omega)); replace OW := ak (OW.out); replace RF := ak (Bt.other RF.out ho GB.out); replace OF := ak (OF.out); replace BK := ak (hbk); replace GB := ak (GB.out); clear hbk ho) | ((with_reducible refine gate_store (t := 22) (p := 44) rfl ?_); refine st_event rfl rfl rfl (g := g7) (j := 1) (by first | rfl | (go_simp; done) | (go_simp; rfl)) (u := .slice (some ⟨gf, 0, none⟩) x.f1.length c6) (by first | rfl | (go_simp; done) | (go_simp; rfl)) BK.out 1 size22 rfl (by simp) (by simp [Value.cells, Value.oneCell']) #[.int .i64 x.f0, .slice (some ⟨gf, 0, none⟩) x.f1.length c6, .int .i64 x.f2] rfl ?_; intro a5 hbk ho; replace HB := ak (Other.below ho HB.out (by have := GB.out; have := RF.out.le; have := OF.out; have := RW.out.le; have := OW.out; have := BH.out.le; omega)); replace BH := ak (Bt.other BH.out ho (by have := GB.out; have := RF.out.le; have := OF.out; have := RW.out.le; have := OW.out; omega)); replace RW := ak (Bt.other RW.out ho (by have := GB.out; have := RF.out.le; have := OF.out; omega)); replace OW := ak (OW.out); replace RF := ak (Bt.other RF.out ho GB.out); replace OF := ak (OF.out); replace BK := ak (hbk); replace GB := ak (GB.out); clear hbk ho) | ((with_reducible refine gate_dst (N := 46) rfl ?_); (try (refine gate_guard (by rfl) ?_; dsimp only)); refine ldw_event rfl rfl (by first | rfl | (go_simp; done) | (go_simp; rfl)) Try.underlying55 ⟨_, rfl⟩ (cs := [.int .i64 x.f0, .slice (some ⟨gf, 0, none⟩) x.f1.length c6, .int .i64 x.f2]) BK.out size55 ?_) | ((with_reducible refine gate_dst (N := 47) rfl ?_); (try (refine gate_guard (by rfl) ?_; dsimp only)); refine goesL_ (some 47) rfl rfl Try.func30 (by kernel_rfl) rfl #[.agg #[.int .i64 x.f0, .slice (some ⟨gf, 0, none⟩) x.f1.length c6, .int .i64 x.f2]] rfl (by (try simp only [List.map_toArray, List.map_cons, List.map_nil]); first | done | rfl) ?_; (with_reducible refine (answer.calls x.f0 x.f2 (some ⟨gf, 0, none⟩) c6 x.f1 _ (show Kd.C k32 _ (some ⟨gf, 0, none⟩) x.f1.length x.f1 from c_full RF.out) (by have := HCAP.out; omega) HXL.out HXW.out).mono ?_); rintro e b1 ⟨vP, vQ, p_, q_, rfl, hao, hans⟩; obtain ⟨AP, cP, rfl⟩ := Kd.R_slice hao.rf; obtain ⟨AQ, cQ, rfl⟩ := Kd.R_slice hao.rt; have hb := hao.hb; refine ⟨_, rfl, ?_⟩; replace HB := ak (below_step HB.out hb); replace BH := ak (Bt.below BH.out hb); replace RW := ak (Bt.below RW.out hb); replace OW := ak (OW.out); replace OF := ak (OF.out); replace BK := ak (blk_below BK.out hb); replace GB := ak (GB.out); have RP := ak (Bt.of hao.rf hb.size); have RQ := ak (Bt.of hao.rt hb.size); have OP := ak (RF.out.sz); replace RF := ak (Bt.below RF.out hb); have ANP := ak (hans); have LP := ak ((And.intro hao.lf hao.lt)); clear hb hao hans) | ((with_reducible refine gate_dst (N := 59) rfl ?_); (try (refine gate_guard (by rfl) ?_; dsimp only)); refine load_event rfl rfl (by first | rfl | (go_simp; done) | (go_simp; rfl)) Try.underlying55 ⟨_, rfl⟩ [.int .i64 y.f0, .slice Ay y.f1.length cy, .int .i64 y.f2] size55 (fun j v hj => (HB.out.cell (World.block_lt_of_cell? _ _ (HCT.out j v hj))).trans (HCT.out j v hj)) ?_) | ((with_reducible refine gate_dst (N := 60) rfl ?_); (try (refine gate_guard (by rfl) ?_; dsimp only)); refine goesL_ (some 60) rfl rfl Try.func30 (by kernel_rfl) rfl #[.agg #[.int .i64 y.f0, .slice Ay y.f1.length cy, .int .i64 y.f2]] rfl (by (try simp only [List.map_toArray, List.map_cons, List.map_nil]); first | done | rfl) ?_; (with_reducible refine (answer.calls y.f0 y.f2 Ay cy y.f1 _ (Kd.C_below HCY.out HB.out) HCV.out HYL.out HYW.out).mono ?_); rintro e b2 ⟨vG, vU, g_, u_, rfl, hao, hans⟩; obtain ⟨AG, cG, rfl⟩ := Kd.R_slice hao.rf; obtain ⟨AU, cU, rfl⟩ := Kd.R_slice hao.rt; have hb := hao.hb; refine ⟨_, rfl, ?_⟩; replace HB := ak (below_step HB.out hb); replace BH := ak (Bt.below BH.out hb); replace RW := ak (Bt.below RW.out hb); replace OW := ak (OW.out); replace RF := ak (Bt.below RF.out hb); replace OF := ak (OF.out); replace BK := ak (blk_below BK.out hb); replace GB := ak (GB.out); replace RQ := ak (Bt.below RQ.out hb); replace OP := ak (OP.out); replace ANP := ak (ANP.out); replace LP := ak (LP.out); have RG := ak (Bt.of hao.rf hb.size); have RU := ak (Bt.of hao.rt hb.size); have OG := ak (RP.out.sz); replace RP := ak (Bt.below RP.out hb); have ANG := ak (hans); have LG := ak ((And.intro hao.lf hao.lt)); clear hb hao hans) | ((with_reducible refine gate_dst (N := 65) rfl ?_); (try (refine gate_guard (by rfl) ?_; dsimp only)); refine ldw_event rfl rfl (by first | rfl | (go_simp; done) | (go_simp; rfl)) Try.underlying55 ⟨_, rfl⟩ (cs := [.int .i64 x.f0, .slice (some ⟨gf, 0, none⟩) x.f1.length c6, .int .i64 x.f2]) BK.out size55 ?_) | ((with_reducible refine gate_dst (N := 66) rfl ?_); (try (refine gate_guard (by rfl) ?_; dsimp only)); refine goesL_ (some 66) rfl rfl Try.func30 (by kernel_rfl) rfl #[.agg #[.int .i64 x.f0, .slice (some ⟨gf, 0, none⟩) x.f1.length c6, .int .i64 x.f2]] rfl (by (try simp only [List.map_toArray, List.map_cons, List.map_nil]); first | done | rfl) ?_; (with_reducible refine (answer.calls x.f0 x.f2 (some ⟨gf, 0, none⟩) c6 x.f1 _ (show Kd.C k32 _ (some ⟨gf, 0, none⟩) x.f1.length x.f1 from c_full RF.out) (by have := HCAP.out; omega) HXL.out HXW.out).mono ?_); rintro e b3 ⟨vV, vX, v_, x_, rfl, hao, hans⟩; obtain ⟨AV, cV, rfl⟩ := Kd.R_slice hao.rf; obtain ⟨AX, cX, rfl⟩ := Kd.R_slice hao.rt; have hb := hao.hb; refine ⟨_, rfl, ?_⟩; replace HB := ak (below_step HB.out hb); replace BH := ak (Bt.below BH.out hb); replace RW := ak (Bt.below RW.out hb); replace OW := ak (OW.out); replace RF := ak (Bt.below RF.out hb); replace OF := ak (OF.out); replace BK := ak (blk_below BK.out hb); replace GB := ak (GB.out); replace RP := ak (Bt.below RP.out hb); replace RQ := ak (Bt.below RQ.out hb); replace OP := ak (OP.out); replace ANP := ak (ANP.out); replace LP := ak (LP.out); replace RU := ak (Bt.below RU.out hb); replace OG := ak (OG.out); replace ANG := ak (ANG.out); replace LG := ak (LG.out); have RV := ak (Bt.of hao.rf hb.size); have RX := ak (Bt.of hao.rt hb.size); have OV := ak (RG.out.sz); replace RG := ak (Bt.below RG.out hb); have ANV := ak (hans); have LV := ak ((And.intro hao.lf hao.lt)); clear hb hao hans))
   obtain ⟨hfv, htx⟩ := Ans.uniq ANP.out ANV.out
   subst hfv htx
   go_upto_region 14 with (first | ((with_reducible refine gate_dst (N := 83) rfl ?_); (try (refine gate_guard (by rfl) ?_; dsimp only)); refine goesL_ (some 83) rfl rfl Try.func12 (by kernel_rfl) rfl #[.slice AP p_.length cP, .slice AV p_.length cV] rfl (by (try simp only [List.map_toArray, List.map_cons, List.map_nil]); first | done | rfl) ?_; (with_reducible refine (payofflaw03_same.calls (p_.length + 1) AP cP p_ AV cV p_ true _ (Kd.R_reads' RP.out.r).2.2 (Kd.R_reads' RP.out.r).2.1 (Kd.R_reads' RV.out.r).2.2 (Kd.R_reads' RV.out.r).2.1 (same_self p_ (by have := LP.out.1; omega) _ (by omega))).mono ?_); rintro e c1 ⟨rfl, hd⟩; have hb := hd.below; refine ⟨_, rfl, ?_⟩; replace HB := ak (below_step HB.out hb); replace BH := ak (Bt.below BH.out hb); replace RW := ak (Bt.below RW.out hb); replace OW := ak (OW.out); replace RF := ak (Bt.below RF.out hb); replace OF := ak (OF.out); replace BK := ak (blk_below BK.out hb); replace GB := ak (GB.out); replace RP := ak (Bt.below RP.out hb); replace RQ := ak (Bt.below RQ.out hb); replace OP := ak (OP.out); replace ANP := ak (ANP.out); replace LP := ak (LP.out); replace RG := ak (Bt.below RG.out hb); replace RU := ak (Bt.below RU.out hb); replace OG := ak (OG.out); replace ANG := ak (ANG.out); replace LG := ak (LG.out); replace RV := ak (Bt.below RV.out hb); replace RX := ak (Bt.below RX.out hb); replace OV := ak (OV.out); replace ANV := ak (ANV.out); replace LV := ak (LV.out); clear hb hd) | ((with_reducible refine gate_dst (N := 89) rfl ?_); (try (refine gate_guard (by rfl) ?_; dsimp only)); refine goesL_ (some 89) rfl rfl Try.func27 (by kernel_rfl) rfl #[.slice AQ q_.length cQ, .slice AX q_.length cX] rfl (by (try simp only [List.map_toArray, List.map_cons, List.map_nil]); first | done | rfl) ?_; (with_reducible refine (payofflaw03_sameTotals.calls (q_.length + 1) AQ cQ q_ AX cX q_ true _ (Kd.R_reads' RQ.out.r).2.2 (Kd.R_reads' RQ.out.r).2.1 (Kd.R_reads' RX.out.r).2.2 (Kd.R_reads' RX.out.r).2.1 (sameT_self q_ (by have := LP.out.2; omega) _ (by omega))).mono ?_); rintro e c2 ⟨rfl, hd⟩; have hb := hd.below; refine ⟨_, rfl, ?_⟩; replace HB := ak (below_step HB.out hb); replace BH := ak (Bt.below BH.out hb); replace RW := ak (Bt.below RW.out hb); replace OW := ak (OW.out); replace RF := ak (Bt.below RF.out hb); replace OF := ak (OF.out); replace BK := ak (blk_below BK.out hb); replace GB := ak (GB.out); replace RP := ak (Bt.below RP.out hb); replace RQ := ak (Bt.below RQ.out hb); replace OP := ak (OP.out); replace ANP := ak (ANP.out); replace LP := ak (LP.out); replace RG := ak (Bt.below RG.out hb); replace RU := ak (Bt.below RU.out hb); replace OG := ak (OG.out); replace ANG := ak (ANG.out); replace LG := ak (LG.out); replace RV := ak (Bt.below RV.out hb); replace RX := ak (Bt.below RX.out hb); replace OV := ak (OV.out); replace ANV := ak (ANV.out); replace LV := ak (LV.out); clear hb hd) | ((with_reducible refine gate_dst (N := 95) rfl ?_); (try (refine gate_guard (by rfl) ?_; dsimp only)); refine goesL_ (some 95) rfl rfl Try.func15 (by kernel_rfl) rfl #[.slice (some ⟨gf, 0, none⟩) (x.f1.length + 3) c6, .slice A5 x.f1.length c5] rfl (by (try simp only [List.map_toArray, List.map_cons, List.map_nil]); first | done | rfl) ?_; (with_reducible refine (untouched_ok x.f1 HXL.out (some ⟨gf, 0, none⟩) c6 A5 c5 _ RF.out.r RW.out.r).mono ?_); rintro e c3 ⟨rfl, hb⟩; refine ⟨_, rfl, ?_⟩; replace HB := ak (below_step HB.out hb); replace BH := ak (Bt.below BH.out hb); replace RW := ak (Bt.below RW.out hb); replace OW := ak (OW.out); replace RF := ak (Bt.below RF.out hb); replace OF := ak (OF.out); replace BK := ak (blk_below BK.out hb); replace GB := ak (GB.out); replace RP := ak (Bt.below RP.out hb); replace RQ := ak (Bt.below RQ.out hb); replace OP := ak (OP.out); replace ANP := ak (ANP.out); replace LP := ak (LP.out); replace RG := ak (Bt.below RG.out hb); replace RU := ak (Bt.below RU.out hb); replace OG := ak (OG.out); replace ANG := ak (ANG.out); replace LG := ak (LG.out); replace RV := ak (Bt.below RV.out hb); replace RX := ak (Bt.below RX.out hb); replace OV := ak (OV.out); replace ANV := ak (ANV.out); replace LV := ak (LV.out); clear hb) | ((with_reducible refine gate_dst (N := 102) rfl ?_); (try (refine gate_guard (by rfl) ?_; dsimp only)); refine ldw_event rfl rfl (by first | rfl | (go_simp; done) | (go_simp; rfl)) Try.underlying55 ⟨_, rfl⟩ (cs := [.int .i64 x.f0, .slice (some ⟨gf, 0, none⟩) x.f1.length c6, .int .i64 x.f2]) BK.out size55 ?_) | ((with_reducible refine gate_callee (f := 31) rfl ?_); (try (refine gate_guard (by rfl) ?_; dsimp only)); refine goesL_ (some 103) rfl rfl Try.func31 (by kernel_rfl) rfl #[.slice (some ⟨gf, 0, none⟩) (x.f1.length + 3) c6, .int .i64 (x.f1.length : Int), .agg #[.int .i64 x.f0, .slice (some ⟨gf, 0, none⟩) x.f1.length c6, .int .i64 x.f2]] rfl (by (try simp only [List.map_toArray, List.map_cons, List.map_nil]); first | done | rfl) ?_; (with_reducible refine (turned.calls x.f0 x.f2 gf c6 x.f1 a1.heap.size a2.heap.size _ RF.out HXL.out HXW.out).mono ?_); rintro e c4 ⟨rfl, hbt, hch⟩; refine ⟨_, rfl, ?_⟩; replace HB := ak (hch.past HB.out (by have := OF.out; have := RW.out.le; have := OW.out; have := BH.out.le; omega) (below_size HB.out)); replace BH := ak (Bt.ch BH.out hch (.inl (by have := OW.out; have := RW.out.le; have := OF.out; omega))); replace RW := ak (Bt.ch RW.out hch (.inl OF.out)); replace OW := ak (OW.out); replace RF := ak (hbt); replace OF := ak (OF.out); replace BK := ak (Ch.blk hch BK.out (.inr GB.out)); replace GB := ak (GB.out); replace RQ := ak (Bt.ch RQ.out hch (.inr OP.out)); replace ANP := ak (ANP.out); replace LP := ak (LP.out); replace RU := ak (Bt.ch RU.out hch (.inr (by have := OP.out; have := RP.out.le; have := OG.out; omega))); replace ANG := ak (ANG.out); replace LG := ak (LG.out); replace RV := ak (Bt.ch RV.out hch (.inr (by have := OP.out; have := RP.out.le; have := OG.out; have := RG.out.le; have := OV.out; omega))); replace RX := ak (Bt.ch RX.out hch (.inr (by have := OP.out; have := RP.out.le; have := OG.out; have := RG.out.le; have := OV.out; omega))); replace RG := ak (Bt.ch RG.out hch (.inr (by have := OP.out; have := RP.out.le; have := OG.out; omega))); replace RP := ak (Bt.ch RP.out hch (.inr OP.out)); replace OP := ak (OP.out); replace OG := ak (OG.out); replace OV := ak (OV.out); replace ANV := ak (ANV.out); replace LV := ak (LV.out); clear hbt hch))
   clear BK GB
   obtain ⟨s3_, hs3_⟩ : ∃ s3_, s3_ = u3 := ⟨_, rfl⟩
   subst hs3_
   have OZ := ak (below_size HB0.out)
   have hord := And.intro OZ.out (And.intro OW.out (And.intro RW.out.le (And.intro OF.out (And.intro RF.out.le (And.intro OP.out (And.intro RP.out.le (And.intro OG.out (And.intro RG.out.le (And.intro OV.out RV.out.le)))))))))
   have hm0 : wrap64 (-1 - (i : Int)) = -1 - (i : Int) := by unfold wrap64; omega
   have hm1 : wrap64 (-1 - (i : Int) - 1048576) = -1 - (i : Int) - 1048576 := by unfold wrap64; omega
   have hm2 : wrap64 (-1 - (i : Int) - 2097152) = -1 - (i : Int) - 2097152 := by unfold wrap64; omega
   go_upto_region 15 with (first | ((with_reducible refine gate_dst (N := 112) rfl ?_); (try (refine gate_guard (by rfl) ?_; dsimp only)); refine goesL_ (some 112) rfl rfl Try.func14 (by kernel_rfl) rfl #[.slice AG g_.length cG, .slice AU u_.length cU, .int .i64 (-1 - (i : Int) - 1048576)] rfl (by (try simp only [List.map_toArray, List.map_cons, List.map_nil]); first | done | rfl) ?_; (with_reducible refine (hold.calls (.slice AG g_.length cG) (.slice AU u_.length cU) g_ u_ (-1 - (i : Int) - 1048576) b1.heap.size (fun k => k < b2.heap.size) (fun k => k < b2.heap.size) _ w RG.out.r RU.out.r (Nat.le_trans RG.out.le RG.out.sz) (by have := LG.out.1; omega) (by have := LG.out.2; omega)).mono ?_); rintro e d1 ⟨rfl, hr1, hr2, hsp⟩; refine ⟨_, rfl, ?_⟩; have hch := Ch.of_spared hsp RG.out.own RU.out.own; replace HB := ak (hch.past HB.out (by omega) (below_size HB.out)); replace BH := ak (Bt.ch BH.out hch (.inl (by omega))); replace RW := ak (Bt.ch RW.out hch (.inl (by omega))); replace OW := ak (OW.out); replace RF := ak (Bt.ch RF.out hch (.inl (by omega))); replace OF := ak (OF.out); replace RP := ak (Bt.ch RP.out hch (.inl (by omega))); replace RQ := ak (Bt.ch RQ.out hch (.inl (by omega))); replace OP := ak (OP.out); replace ANP := ak (ANP.out); replace LP := ak (LP.out); replace RG := ak (Bt.mk hr1 RG.out.le (Nat.le_trans RG.out.sz hch.size)); replace RU := ak (Bt.mk hr2 RU.out.le (Nat.le_trans RU.out.sz hch.size)); replace OG := ak (OG.out); replace ANG := ak (ANG.out); replace LG := ak (LG.out); replace RV := ak (Bt.ch RV.out hch (.inr (by omega))); replace RX := ak (Bt.ch RX.out hch (.inr (by omega))); replace OV := ak (OV.out); replace ANV := ak (ANV.out); replace LV := ak (LV.out); replace OZ := ak (OZ.out); clear hr1 hr2 hsp hch) | ((with_reducible refine gate_dst (N := 118) rfl ?_); (try (refine gate_guard (by rfl) ?_; dsimp only)); refine goesL_ (some 118) rfl rfl Try.func14 (by kernel_rfl) rfl #[.slice AV p_.length cV, .slice AX q_.length cX, .int .i64 (-1 - (i : Int) - 2097152)] rfl (by (try simp only [List.map_toArray, List.map_cons, List.map_nil]); first | done | rfl) ?_; (with_reducible refine (hold.calls (.slice AV p_.length cV) (.slice AX q_.length cX) p_ q_ (-1 - (i : Int) - 2097152) b2.heap.size (fun k => k < b3.heap.size) (fun k => k < b3.heap.size) _ w RV.out.r RX.out.r (Nat.le_trans RV.out.le RV.out.sz) (by have := LP.out.1; omega) (by have := LP.out.2; omega)).mono ?_); rintro e d2 ⟨rfl, hr1, hr2, hsp⟩; refine ⟨_, rfl, ?_⟩; have hch := Ch.of_spared hsp RV.out.own RX.out.own; replace HB := ak (hch.past HB.out (by omega) (below_size HB.out)); replace BH := ak (Bt.ch BH.out hch (.inl (by omega))); replace RW := ak (Bt.ch RW.out hch (.inl (by omega))); replace OW := ak (OW.out); replace RF := ak (Bt.ch RF.out hch (.inl (by omega))); replace OF := ak (OF.out); replace RP := ak (Bt.ch RP.out hch (.inl (by omega))); replace RQ := ak (Bt.ch RQ.out hch (.inl (by omega))); replace OP := ak (OP.out); replace ANP := ak (ANP.out); replace LP := ak (LP.out); replace RG := ak (Bt.ch RG.out hch (.inl (by omega))); replace RU := ak (Bt.ch RU.out hch (.inl (by omega))); replace OG := ak (OG.out); replace ANG := ak (ANG.out); replace LG := ak (LG.out); replace RV := ak (Bt.mk hr1 RV.out.le (Nat.le_trans RV.out.sz hch.size)); replace RX := ak (Bt.mk hr2 RX.out.le (Nat.le_trans RX.out.sz hch.size)); replace OV := ak (OV.out); replace ANV := ak (ANV.out); replace LV := ak (LV.out); replace OZ := ak (OZ.out); clear hr1 hr2 hsp hch) | ((with_reducible refine gate_dst (N := 119) rfl ?_); (try (refine gate_guard (by rfl) ?_; dsimp only)); refine Kd.R_lit KH (w0 := w) w.heap.size 28 rfl (N := 119) rfl (xs := [(List.replicate g_.length (heldF (-1 - (i : Int) - 1048576)), List.replicate u_.length (heldT (-1 - (i : Int) - 1048576)), -1 - (i : Int) - 1048576), (List.replicate p_.length (heldF (-1 - (i : Int) - 2097152)), List.replicate q_.length (heldT (-1 - (i : Int) - 2097152)), -1 - (i : Int) - 2097152)]) (inner := [.slice AG g_.length cG, .slice AU u_.length cU, .int .i64 (-1 - (i : Int) - 1048576), .slice AV p_.length cV, .slice AX q_.length cX, .int .i64 (-1 - (i : Int) - 2097152)]) (okp := (fun k => b1.heap.size ≤ k ∧ k < b3.heap.size)) (ok := (fun k => b1.heap.size ≤ k)) ?hr (KH_reps2 (KH_mk (Kd.R_mono (Kd.R_lower (Kd.R_bound RG.out.r) (by have := below_size HB.out; omega)) (fun k hk => by have := hk.2.1; have := hk.1; omega)) (Kd.R_mono (Kd.R_lower (Kd.R_bound RU.out.r) (by omega)) (fun k hk => by have := hk.2.1; have := hk.1; omega))) (KH_mk (Kd.R_mono (Kd.R_lower (Kd.R_bound RV.out.r) (by have := below_size HB.out; omega)) (fun k hk => by have := hk.2.1; have := hk.1; omega)) (Kd.R_mono (Kd.R_lower (Kd.R_bound RX.out.r) (by omega)) (fun k hk => by have := hk.2.1; have := hk.1; omega)))) (fun k hk => hk.1) (by have := RV.out.sz; omega) HB.out (below_size HB.out) (by simp) ?_; (case hr => first | (go_simp; done) | (go_simp; rfl)); intro vl d3 hr_ hb_ hg_ hat_; obtain ⟨Al, cl, rfl⟩ := Kd.R_slice hr_; have hb := below_of_none hg_; replace HB := ak (below_step HB.out hb); replace BH := ak (Bt.below BH.out hb); replace RW := ak (Bt.below RW.out hb); replace OW := ak (OW.out); replace RF := ak (Bt.below RF.out hb); replace OF := ak (OF.out); replace RP := ak (Bt.below RP.out hb); replace RQ := ak (Bt.below RQ.out hb); replace OP := ak (OP.out); replace ANP := ak (ANP.out); replace LP := ak (LP.out); replace RG := ak (Bt.below RG.out hb); replace RU := ak (Bt.below RU.out hb); replace OG := ak (OG.out); replace ANG := ak (ANG.out); replace LG := ak (LG.out); replace RV := ak (Bt.below RV.out hb); replace RX := ak (Bt.below RX.out hb); replace OV := ak (OV.out); replace ANV := ak (ANV.out); replace LV := ak (LV.out); replace OZ := ak (OZ.out); have RL := ak (hr_); clear hb_ hg_ hat_ hb hr_) | ((with_reducible refine gate_dst (N := 120) rfl ?_); (try (refine gate_guard (by rfl) ?_; dsimp only)); obtain ⟨Ar, cr, he_, _, hrr⟩ := OwnRow.reads RL.out.2; injection he_ with he_ _ hec_; subst he_ hec_; refine Kd.R_append_rows KH (w0 := w) w.heap.size rfl (.tmp 106) (.tmp 119) 53 28 (.agg #[.slice none 0 0, .slice none 0 0, .int .i64 0]) 56 rfl Try.underlying53 info28 rfl (by decide) (by decide) (s3_) (hs) ([(List.replicate g_.length (heldF (-1 - (i : Int) - 1048576)), List.replicate u_.length (heldT (-1 - (i : Int) - 1048576)), -1 - (i : Int) - 1048576), (List.replicate p_.length (heldF (-1 - (i : Int) - 2097152)), List.replicate q_.length (heldT (-1 - (i : Int) - 2097152)), -1 - (i : Int) - 2097152)]) Al 2 cl (fun k => k < wi.heap.size ∨ b1.heap.size ≤ k) _ rfl rfl (Kd.R_mono BH.out.r (fun k hk => .inl hk)) hrr (fun _ _ h_ => h_) (fun k hk => ⟨.inr hk.1, fun he_ => by have := (BH.out.own k he_.symm).2; have := hk.1; omega⟩) (fun k hk => .inr (by have := RV.out.sz; omega)) HB.out (below_size HB.out) (by have := HL.out; omega) ?_; intro v3 d4 hr_ hb_ hg_ hat_; have hch := Ch.of_grown hg_ BH.out.own; replace HB := ak (hb_); replace RW := ak (Bt.ch RW.out hch (.inr (by omega))); replace OW := ak (OW.out); replace RF := ak (Bt.ch RF.out hch (.inr (by omega))); replace OF := ak (OF.out); replace RP := ak (Bt.ch RP.out hch (.inr (by omega))); replace RQ := ak (Bt.ch RQ.out hch (.inr (by omega))); replace OP := ak (OP.out); replace ANP := ak (ANP.out); replace LP := ak (LP.out); replace RG := ak (Bt.ch RG.out hch (.inr (by omega))); replace RU := ak (Bt.ch RU.out hch (.inr (by omega))); replace OG := ak (OG.out); replace ANG := ak (ANG.out); replace LG := ak (LG.out); replace RV := ak (Bt.ch RV.out hch (.inr (by omega))); replace RX := ak (Bt.ch RX.out hch (.inr (by omega))); replace OV := ak (OV.out); replace ANV := ak (ANV.out); replace LV := ak (LV.out); replace OZ := ak (OZ.out); have BN := ak (hr_); clear BH RL; clear hch; clear hr_ hb_ hg_ hat_))
   have hl3 : hs.length = 3 * i := HL.out
   have HLG := LG
   have HLP := LP
   go_upto_region 18 with (first | ((with_reducible refine gate_dst (N := 126) rfl ?_); (try (refine gate_guard (by rfl) ?_; dsimp only)); refine goesL_ (some 126) rfl rfl Try.func14 (by kernel_rfl) rfl #[.slice AP p_.length cP, .slice AQ q_.length cQ, .int .i64 (-1 - (i : Int))] rfl (by (try simp only [List.map_toArray, List.map_cons, List.map_nil]); first | done | rfl) ?_; (with_reducible refine (hold.calls (.slice AP p_.length cP) (.slice AQ q_.length cQ) p_ q_ (-1 - (i : Int)) a5.heap.size (fun k => k < b1.heap.size) (fun k => k < b1.heap.size) _ w RP.out.r RQ.out.r (Nat.le_trans RP.out.le RP.out.sz) (by have := LP.out.1; omega) (by have := LP.out.2; omega)).mono ?_); rintro e d5 ⟨rfl, hr1, hr2, hsp⟩; refine ⟨_, rfl, ?_⟩; have hch := Ch.of_spared hsp RP.out.own RQ.out.own; replace HB := ak (hch.past HB.out (by omega) (below_size HB.out)); replace RW := ak (Bt.ch RW.out hch (.inl (by omega))); replace OW := ak (OW.out); replace RF := ak (Bt.ch RF.out hch (.inl (by omega))); replace OF := ak (OF.out); replace RP := ak (Bt.mk hr1 RP.out.le (Nat.le_trans RP.out.sz hch.size)); replace RQ := ak (Bt.mk hr2 RQ.out.le (Nat.le_trans RQ.out.sz hch.size)); replace OP := ak (OP.out); replace ANP := ak (ANP.out); replace LP := ak (LP.out); replace RG := ak (Bt.ch RG.out hch (.inr (by omega))); replace RU := ak (Bt.ch RU.out hch (.inr (by omega))); replace OG := ak (OG.out); replace ANG := ak (ANG.out); replace LG := ak (LG.out); replace RV := ak (Bt.ch RV.out hch (.inr (by omega))); replace RX := ak (Bt.ch RX.out hch (.inr (by omega))); replace OV := ak (OV.out); replace ANV := ak (ANV.out); replace LV := ak (LV.out); replace OZ := ak (OZ.out); replace BN := ak (Kd.R_mono (Kd.R_move (Kd.R_bound BN.out) (fun k hk => hch.block k hk.2.2.1 (by have := hk.1; omega))) (fun k hk => hk.1)); clear hr1 hr2 hsp hch) | ((with_reducible refine gate_dst (N := 127) rfl ?_); (try (refine gate_guard (by rfl) ?_; dsimp only)); refine Kd.R_lit KH (w0 := w) w.heap.size 28 rfl (N := 127) rfl (xs := [(List.replicate p_.length (heldF (-1 - (i : Int))), List.replicate q_.length (heldT (-1 - (i : Int))), -1 - (i : Int))]) (inner := [.slice AP p_.length cP, .slice AQ q_.length cQ, .int .i64 (-1 - (i : Int))]) (okp := (fun k => a5.heap.size ≤ k ∧ k < b1.heap.size)) (ok := (fun k => a5.heap.size ≤ k ∧ (k < b1.heap.size ∨ d5.heap.size ≤ k))) ?hr (KH_reps1 (KH_mk (Kd.R_mono (Kd.R_lower (Kd.R_bound RP.out.r) (by omega)) (fun k hk => ⟨hk.2.1, hk.1⟩)) (Kd.R_mono (Kd.R_lower (Kd.R_bound RQ.out.r) (by omega)) (fun k hk => ⟨hk.2.1, hk.1⟩)))) (fun k hk => ⟨hk.1, .inl hk.2⟩) ⟨by have := RV.out.sz; omega, .inr (Nat.le_refl _)⟩ HB.out (below_size HB.out) (by simp) ?_; (case hr => first | (go_simp; done) | (go_simp; rfl)); intro vl d6 hr_ hb_ hg_ hat_; obtain ⟨Al, cl, rfl⟩ := Kd.R_slice hr_; have hb := below_of_none hg_; replace RW := ak (Bt.below RW.out hb); replace OW := ak (OW.out); replace RF := ak (Bt.below RF.out hb); replace OF := ak (OF.out); replace RP := ak (Bt.below RP.out hb); replace RQ := ak (Bt.below RQ.out hb); replace OP := ak (OP.out); replace ANP := ak (ANP.out); replace LP := ak (LP.out); replace RG := ak (Bt.below RG.out hb); replace RU := ak (Bt.below RU.out hb); replace OG := ak (OG.out); replace ANG := ak (ANG.out); replace LG := ak (LG.out); replace RV := ak (Bt.below RV.out hb); replace RX := ak (Bt.below RX.out hb); replace OV := ak (OV.out); replace ANV := ak (ANV.out); replace LV := ak (LV.out); replace OZ := ak (OZ.out); have RL := ak (hr_); have BL := ak ((fun k hk => And.intro (BN.out.1 k hk) (Kd.R_lt BN.out k hk) : ∀ k, v3.ownBlock = some k → (k < wi.heap.size ∨ b1.heap.size ≤ k) ∧ k < d5.heap.size)); replace BN := ak (Kd.R_below BN.out hb); have DZ := ak (below_size (below_step HB.out hb)); replace HB := ak (below_step HB.out hb); clear hb_ hg_ hat_ hb hr_) | ((with_reducible refine gate_dst (N := 128) rfl ?_); (try (refine gate_guard (by rfl) ?_; dsimp only)); obtain ⟨Ar, cr, he_, _, hrr⟩ := OwnRow.reads RL.out.2; injection he_ with he_ _ hec_; subst he_ hec_; refine Kd.R_append_rows KH (w0 := w) w.heap.size rfl (.tmp 121) (.tmp 127) 53 28 (.agg #[.slice none 0 0, .slice none 0 0, .int .i64 0]) 56 rfl Try.underlying53 info28 rfl (by decide) (by decide) (v3) ((hs ++ [(List.replicate g_.length (heldF (-1 - (i : Int) - 1048576)), List.replicate u_.length (heldT (-1 - (i : Int) - 1048576)), -1 - (i : Int) - 1048576), (List.replicate p_.length (heldF (-1 - (i : Int) - 2097152)), List.replicate q_.length (heldT (-1 - (i : Int) - 2097152)), -1 - (i : Int) - 2097152)])) ([(List.replicate p_.length (heldF (-1 - (i : Int))), List.replicate q_.length (heldT (-1 - (i : Int))), -1 - (i : Int))]) Al 1 cl (fun _ => True) _ rfl rfl (Kd.R_mono BN.out (fun _ _ => trivial)) hrr (fun _ _ h_ => h_) (fun k hk => ⟨trivial, fun he_ => by have h1_ := BL.out k he_.symm; have h2_ := hk.1; omega⟩) (fun _ _ => trivial) HB.out (below_size HB.out) (by have := HL.out; rw [List.length_append]; simp only [List.length_cons, List.length_nil]; omega) ?_; intro v7 d7 hr_ hb_ hg_ hat_; replace HB := ak (hb_); have BM := ak (hr_); replace RW := ak (Bt.mk (Kd.R_mono (Kd.R_grown (Kd.R_bound RW.out.r) hg_ (fun k hk he_ => by have := (BL.out k he_.symm).1; have := hk.1; have := hk.2.1; omega)) (fun k hk => hk.1)) RW.out.le (Nat.le_trans RW.out.sz hg_.size)); replace RF := ak (Bt.mk (Kd.R_mono (Kd.R_grown (Kd.R_bound RF.out.r) hg_ (fun k hk he_ => by have := (BL.out k he_.symm).1; have := hk.1; have := hk.2.1; omega)) (fun k hk => hk.1)) RF.out.le (Nat.le_trans RF.out.sz hg_.size)); clear OW OF RP RQ OP ANP LP RG RU OG ANG LG RV RX OV ANV LV OZ BN RL BL DZ; clear hr_ hb_ hg_ hat_) | ((with_reducible refine gate_dst (N := 131) rfl ?_); (try (refine gate_guard (by rfl) ?_; dsimp only)); refine goesL_ (some 131) rfl rfl Try.func15 (by kernel_rfl) rfl #[.slice (some ⟨gf, 0, none⟩) (x.f1.length + 3) c6, .slice A5 x.f1.length c5] rfl (by (try simp only [List.map_toArray, List.map_cons, List.map_nil]); first | done | rfl) ?_; (with_reducible refine (untouched_ok x.f1 HXL.out (some ⟨gf, 0, none⟩) c6 A5 c5 _ RF.out.r RW.out.r).mono ?_); rintro e d8 ⟨rfl, hb⟩; refine ⟨_, rfl, ?_⟩; replace HB := ak (below_step HB.out hb); replace BM := ak (Kd.R_below BM.out hb); replace RW := ak (Bt.below RW.out hb); replace RF := ak (Bt.below RF.out hb); clear hb))
   have hwn : ∀ h ∈ [((List.replicate g_.length (heldF (-1 - (i : Int) - 1048576)), List.replicate u_.length (heldT (-1 - (i : Int) - 1048576)), -1 - (i : Int) - 1048576) : HeldV), (List.replicate p_.length (heldF (-1 - (i : Int) - 2097152)), List.replicate q_.length (heldT (-1 - (i : Int) - 2097152)), -1 - (i : Int) - 2097152), (List.replicate p_.length (heldF (-1 - (i : Int))), List.replicate q_.length (heldT (-1 - (i : Int))), -1 - (i : Int))], Whole h := by
    intro h hh
    simp only [List.mem_cons, List.not_mem_nil, or_false] at hh
    rcases hh with rfl | rfl | rfl
    ·exact ⟨_, _, _, rfl, HLG.out.1, HLG.out.2⟩
    ·exact ⟨_, _, _, rfl, HLP.out.1, HLP.out.2⟩
    ·exact ⟨_, _, _, rfl, HLP.out.1, HLP.out.2⟩
   obtain ⟨hs2, hhs2⟩ : ∃ hs2, hs2 = hs ++ [(List.replicate g_.length (heldF (-1 - (i : Int) - 1048576)), List.replicate u_.length (heldT (-1 - (i : Int) - 1048576)), -1 - (i : Int) - 1048576), (List.replicate p_.length (heldF (-1 - (i : Int) - 2097152)), List.replicate q_.length (heldT (-1 - (i : Int) - 2097152)), -1 - (i : Int) - 2097152)] ++ [(List.replicate p_.length (heldF (-1 - (i : Int))), List.replicate q_.length (heldT (-1 - (i : Int))), -1 - (i : Int))] := ⟨_, rfl⟩
   have hw2 : ∀ h ∈ hs2, Whole h := by
    intro h hh
    rw [hhs2, List.append_assoc, List.mem_append] at hh
    rcases hh with hh | hh
    ·exact HW.out h hh
    ·exact hwn h hh
   have hl2 : hs2.length = 3 * (i + 1) := by rw [hhs2]; simp only [List.length_append, List.length_cons, List.length_nil]; omega
   rw [← hhs2] at BM
   have HW2 := ak hw2
   have HL2 := ak hl2
   have hl2b : hs2.length ≤ 4194304 := by omega
   clear hl2 hw2 hwn hhs2 RW RF
   obtain ⟨A7, c7, rfl⟩ := Kd.R_slice BM.out
   go_wp2_with fail
   go_loopg [17] hs2.length (fun ky s17 wr => ∃ (j : Nat), s17 = .int .i64 j ∧ j ≤ hs2.length ∧ hs2.length - j ≤ ky ∧ Aside0 (Below d8.heap.size d8 wr))
   case atStart => exact ⟨0, rfl, Nat.zero_le _, by omega, ⟨Below.refl _ _⟩⟩
   case round =>
    obtain ⟨j, rfl, hj, hky, HB2⟩ := hrel
    obtain ⟨wj, rfl⟩ : ∃ wj : World, wj = wr := ⟨_, rfl⟩
    by_cases hlj : j < hs2.length
    ·have hljz : (j : Int) < (hs2.length : Int) := by omega
     have hj00 : (0 : Int) ≤ (j : Int) := by omega
     obtain ⟨ah, ch, hAh, _, hK, hcc⟩ := Kd.C_get (Kd.C_below (Kd.R_reads' BM.out).2.2 HB2.out) hz (j : Int) hj00 hljz
     rw [Int.toNat_natCast] at hK hcc
     have hwj := HW2.out _ (getD_mem hz hlj)
     generalize hs2.getD j hz = h at hK hwj
     obtain ⟨Af, cf, At, ct, rfl, k1, k2, k3, k4⟩ := KH_open hK
     subst hAh
     have HCH := ak (show CSat wj (ah.add (j * 3)) [.slice Af h.1.length cf, .slice At h.2.1.length ct, .int .i64 h.2.2] from fun q v hq => by rw [add_two]; exact hcc q v hq)
     have HCALL := ak (whole_ok h hwj Af cf At ct wj k1 k2 k3 k4)
     clear hcc hK hwj k1 k2 k3 k4
     go_wp2_with (first | ((with_reducible refine gate_dst (N := 142) rfl ?_); (try (refine gate_guard (by rfl) ?_; dsimp only)); refine load_event rfl rfl (by first | rfl | (go_simp; done) | (go_simp; rfl)) Try.underlying28 ⟨_, rfl⟩ [.slice Af h.1.length cf, .slice At h.2.1.length ct, .int .i64 h.2.2] size28 HCH.out ?_) | ((with_reducible refine gate_dst (N := 143) rfl ?_); (try (refine gate_guard (by rfl) ?_; dsimp only)); refine goesL_ (some 143) rfl rfl Try.func32 (by kernel_rfl) rfl #[.agg #[.slice Af h.1.length cf, .slice At h.2.1.length ct, .int .i64 h.2.2]] rfl (by (try simp only [List.map_toArray, List.map_cons, List.map_nil]); first | done | rfl) ?_; (with_reducible refine HCALL.out.mono ?_); rintro e wk ⟨rfl, hb⟩; refine ⟨_, rfl, ?_⟩; have HB3 := ak (below_step HB2.out hb); clear hb HB2 HCALL HCH))
     go_roundg (hs2.length - (j + 1))
     case measure => omega
     case rel => exact ⟨j + 1, by go_num, by omega, Nat.le_refl _, ak HB3.out⟩
    ·have hljz : ¬ (j : Int) < (hs2.length : Int) := by omega
     go_wp2
     go_roundg (qs.length - (i + 1))
     case measure => omega
     case rel => exact ⟨i + 1, hs2, by go_num, by omega, Nat.le_refl _, ak (Kd.R_below BM.out HB2.out), HW2, HL2, ak (below_step HB.out HB2.out)⟩
  ·have hltz : ¬ (i : Int) < (qs.length : Int) := by omega
   go_wp2
   go_ret
   exact ⟨rfl, HB.out⟩
end Go.Proofs.Ytdfndbegifdejaa.PFlowExact
end
