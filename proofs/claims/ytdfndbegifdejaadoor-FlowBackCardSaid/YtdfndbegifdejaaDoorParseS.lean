/- What flow.Parse answers: the lines of a printed text, or the place at which the automaton stands still; printed lines at a text's beginning are taken. -/
import Derived.Test.YtdfndbegifdejaaDoorLineS
import Derived.Test.YtdfndbegifdejaaDoorPrnR
namespace Go.Proofs.YtdfndbegifdejaaDoor.GD
set_option linter.unusedVariables false
set_option linter.unusedSimpArgs false
open Go.RowKit Go.Proofs.YtdfndbegifdejaaDoorW.PrintWords

def lines (l : List S32) : List UInt8 := l.flatMap lineL
theorem lines_cons (x : S32) (l : List S32) : lines (x :: l) = lineL x ++ lines l := by simp [lines]
theorem lines_append (a b : List S32) : lines (a ++ b) = lines a ++ lines b := by simp [lines]
theorem lineL_pos (x : S32) : 0 < (lineL x).length := by unfold lineL; simp only [List.length_append, List.length_cons, List.length_nil]; omega
theorem fin_stuck (s : ByteArray) (d a : Int) (q : Nat) : Stuck s (.fin d a) q := fun _ => rfl
theorem seg_take {s : ByteArray} {p q : Nat} {l r : List UInt8} (h : s.data.toList.drop p = l ++ r) (hq : q = p + l.length) : seg s p q = l := by
  unfold seg
  rw [h, show q - p = l.length by omega, List.take_left']
  rfl
theorem cur_of_line {x y : S32} (h0 : x.f0 = y.f0) (h2 : x.f2 = y.f2) (h : lineL x = lineL y) : x.f1 = y.f1 := by
  unfold lineL at h
  rw [h0, h2] at h
  simp only [List.append_assoc] at h
  have h3 := List.append_cancel_left h
  have h4 := List.append_cancel_left h3
  have h5 : x.f1.data.toList ++ ([32] ++ (Lib.itoa y.f2 ++ [10])) = y.f1.data.toList ++ ([32] ++ (Lib.itoa y.f2 ++ [10])) := h4
  exact ba_ext (List.append_cancel_right h5)
theorem line_forward (s : ByteArray) (hsz : s.size ≤ 1048576) (p : Nat) (x : S32) (hx : Fine x) (r : List UInt8) (h : s.data.toList.drop p = lineL x ++ r) (k : Nat) (hk : 8 * s.size + 60 < k) :
    flow_reader_line.f k s (p : Int) = some (x.f0, x.f1, x.f2, true, s, ((p + (lineL x).length : Nat) : Int)) ∧ p + (lineL x).length ≤ s.size := by
  have hlen := congrArg List.length h
  simp only [List.length_drop, List.length_append, size_list] at hlen
  have hp := lineL_pos x
  have hr := reach_run (lineL x) _ _ p (run_line x hx) ⟨r, h⟩
  rcases line_spec s hsz p (by omega) k hk with ⟨d, c, a, q, h1, h2, h3, h4, h5, h6⟩ | ⟨q, st, h1, h2, h3, h4, h5⟩
  · obtain ⟨e1, e2⟩ := h3.det (fin_stuck _ _ _ _) hr (fin_stuck _ _ _ _)
    injection e1 with e1 e3
    have hs := seg_take h e2
    rw [h6] at hs
    have hc : c = x.f1 := cur_of_line (x := ⟨d, c, a⟩) (y := x) e1 e3 hs
    subst e2
    rw [h1, e1, e3, hc]
    exact ⟨rfl, by omega⟩
  · obtain ⟨e1, e2⟩ := h3.det h4 hr (fin_stuck _ _ _ _)
    exact absurd e1 (h5 _ _)
theorem fine_eta (x : S32) : (⟨x.f0, x.f1, x.f2⟩ : S32) = x := rfl
/-- Lines at the beginning are read one by one. -/
theorem parse_forward (s : ByteArray) (hsz : s.size ≤ 1048576) : ∀ (l : List S32) (p k : Nat) (acc : List S32) (r : List UInt8), (∀ x ∈ l, Fine x) → s.data.toList.drop p = lines l ++ r → acc.length ≤ p → 8 * s.size + 61 < k →
    flow_Parse.l0 (k + l.length) s acc s (p : Int) = flow_Parse.l0 k s (acc ++ l) s ((p + (lines l).length : Nat) : Int) ∧ (p ≤ s.size → p + (lines l).length ≤ s.size)
  | [], p, k, acc, r, _, _, _, _ => by simp [lines]
  | x :: l, p, k, acc, r, hf, h, ha, hk => by
    rw [lines_cons, List.append_assoc] at h
    obtain ⟨h1, h2⟩ := line_forward s hsz p x (hf x (by simp)) _ h (k + l.length) (by omega)
    have hp := lineL_pos x
    have hd : s.data.toList.drop (p + (lineL x).length) = lines l ++ r := by
      rw [← List.drop_drop, h, List.drop_left']
      rfl
    obtain ⟨ih, ih2⟩ := parse_forward s hsz l (p + (lineL x).length) k (acc ++ [x]) r (fun y hy => hf y (by simp [hy])) hd (by simp; omega) hk
    refine ⟨?_, fun _ => ?_⟩
    · rw [List.length_cons, show k + (l.length + 1) = (k + l.length) + 1 by omega]
      simp only [flow_Parse.l0]
      rw [if_pos (by omega), h1]
      simp only [Option.bind_some, if_true]
      rw [if_pos (by omega), fine_eta, ih, lines_cons, List.length_append, List.append_assoc]
      simp [Nat.add_assoc]
    · have := ih2 h2
      rw [lines_cons, List.length_append]; omega
/-- A text that has been read up to p, all lines; what comes there can't stand. -/
structure Halt (s : ByteArray) (l : List S32) (p q : Nat) (st : St) : Prop where
  fine : ∀ x ∈ l, Fine x
  upto : s.data.toList.take p = lines l
  here : p < s.size
  reach : Reach s (.day 0 0) p st q
  stuck : Stuck s st q
  nofin : ∀ x y, st ≠ .fin x y
  inn : q ≤ s.size
theorem take_lines {s : ByteArray} {p q : Nat} {l : List S32} {x : S32} (h : s.data.toList.take p = lines l) (hpq : p ≤ q) (hs : seg s p q = lineL x) : s.data.toList.take q = lines (l ++ [x]) := by
  rw [lines_append, ← h]
  have : lines [x] = lineL x := by simp [lines]
  rw [this, ← hs]
  unfold seg
  rw [show q = p + (q - p) by omega, List.take_add]
  simp
theorem parse_l0 (s : ByteArray) (hsz : s.size ≤ 1048576) : ∀ (d p k : Nat) (acc : List S32), p + d = s.size → acc.length ≤ p → (∀ x ∈ acc, Fine x) → s.data.toList.take p = lines acc → 8 * s.size + 61 + d < k →
    (∃ l, flow_Parse.l0 k s acc s (p : Int) = some (l, 0, 0) ∧ (∀ x ∈ l, Fine x) ∧ s.data.toList = lines l) ∨ (∃ (l : List S32) (p' q : Nat) (st : St), flow_Parse.l0 k s acc s (p : Int) = some ([], (q : Int), 31) ∧ Halt s l p' q st) := by
  intro d
  induction d using Nat.strongRecOn with
  | _ d ih =>
    intro p k acc hd ha hf ht hk
    obtain ⟨k, rfl⟩ : ∃ q, k = q + 1 := ⟨k - 1, by omega⟩
    simp only [flow_Parse.l0]
    by_cases hp : p < s.size
    · rw [if_pos (by omega)]
      rcases line_spec s hsz p (by omega) k (by omega) with ⟨dd_, c, a, q, h1, h2, h3, h4, h5, h6⟩ | ⟨q, st, h1, h2, h3, h4, h5⟩
      · rw [h1]
        simp only [Option.bind_some, if_true]
        rw [if_pos (by omega)]
        have f1 : ∀ x ∈ acc ++ [(⟨dd_, c, a⟩ : S32)], Fine x := by
          intro x hx
          rcases List.mem_append.1 hx with hx | hx
          · exact hf x hx
          · rw [List.mem_singleton.1 hx]; exact h4
        have f2 : s.data.toList.take q = lines (acc ++ [(⟨dd_, c, a⟩ : S32)]) := take_lines ht (Nat.le_of_lt h5) h6
        have f3 : (acc ++ [(⟨dd_, c, a⟩ : S32)]).length ≤ q := by rw [List.length_append, List.length_singleton]; omega
        have f4 : s.size - q < d := by omega
        have f5 : q + (s.size - q) = s.size := by omega
        have f6 : 8 * s.size + 61 + (s.size - q) < k := by omega
        exact ih (s.size - q) f4 q k _ f5 f3 f1 f2 f6
      · rw [h1]
        simp only [Option.bind_some, Bool.false_eq_true, if_false]
        exact .inr ⟨acc, p, q, st, rfl, hf, ht, hp, h3, h4, h5, h2⟩
    · rw [if_neg (by omega)]
      exact .inl ⟨acc, rfl, hf, by rw [← ht, List.take_of_length_le (by rw [size_list]; omega)]⟩
theorem parse_spec (s : ByteArray) (hsz : s.size ≤ 1048576) (k : Nat) (hk : 9 * s.size + 61 < k) :
    (∃ l, flow_Parse.f k s = some (l, 0, 0) ∧ (∀ x ∈ l, Fine x) ∧ s.data.toList = lines l) ∨ (∃ (l : List S32) (p' q : Nat) (st : St), flow_Parse.f k s = some ([], (q : Int), 31) ∧ Halt s l p' q st) := by
  have h := parse_l0 s hsz s.size 0 k [] (by omega) (by simp) (fun x hx => by cases hx) (by simp [lines]) (by omega)
  unfold flow_Parse.f
  rw [if_neg (by omega)]
  exact h
/-- What is printed is read back. -/
theorem parse_lines (s : ByteArray) (hsz : s.size ≤ 1048576) (l : List S32) (hf : ∀ x ∈ l, Fine x) (h : s.data.toList = lines l) (k : Nat) (hk : 8 * s.size + 63 + l.length < k) : flow_Parse.f k s = some (l, 0, 0) := by
  unfold flow_Parse.f
  rw [if_neg (by omega)]
  have h1 := (parse_forward s hsz l 0 (k - l.length) [] [] hf (by simpa using h) (by simp) (by omega)).1
  rw [show k - l.length + l.length = k by omega] at h1
  refine h1.trans ?_
  obtain ⟨q, hq⟩ : ∃ q, k - l.length = q + 1 := ⟨k - l.length - 1, by omega⟩
  rw [hq]
  simp only [flow_Parse.l0]
  have hz : (lines l).length = s.size := by rw [← h]; rfl
  rw [if_neg (by rw [hz]; simp)]
  simp
theorem lines_len (l : List S32) : l.length ≤ (lines l).length := by
  induction l with
  | nil => simp
  | cons x l ih => rw [lines_cons, List.length_append, List.length_cons]; have := lineL_pos x; omega
/-- A text that agrees with one that is refused, up to the place, and has no byte there or the same, is refused there; or it ends just there, whole. -/
theorem parse_halt {s t : ByteArray} {l : List S32} {p q : Nat} {st : St} (H : Halt s l p q st) (hsz : t.size ≤ 1048576) (hq : q ≤ t.size) (hag : ∀ j, j < q → by_ t j = by_ s j) (hpre : t.data.toList.take p = s.data.toList.take p) (hst : Stuck t st q) (k : Nat) (hk : 9 * t.size + 64 < k) :
    (flow_Parse.f k t = some ([], (q : Int), 31) ∧ (p < t.size)) ∨ (∃ m, flow_Parse.f k t = some (m, 0, 0) ∧ p = t.size) := by
  have hpq := H.reach.le
  have hpl : p = (lines l).length := by
    rw [← H.upto, List.length_take, size_list]; have := H.here; omega
  have hdrop : t.data.toList = lines l ++ t.data.toList.drop p := by
    conv => lhs; rw [← List.take_append_drop p t.data.toList]
    rw [hpre, H.upto]
  have hll := lines_len l
  have h1 := (parse_forward t hsz l 0 (k - l.length) [] (t.data.toList.drop p) H.fine (by simpa using hdrop) (by simp) (by omega)).1
  rw [show k - l.length + l.length = k by omega, Nat.zero_add, ← hpl, List.nil_append] at h1
  unfold flow_Parse.f
  rw [if_neg (by omega)]
  have h1' : flow_Parse.l0 k t [] t 0 = flow_Parse.l0 (k - l.length) t l t (p : Int) := h1
  rw [h1']
  obtain ⟨k', hk'⟩ : ∃ z, k - l.length = z + 1 := ⟨k - l.length - 1, by omega⟩
  rw [hk']
  simp only [flow_Parse.l0]
  by_cases hp : p < t.size
  · rw [if_pos (by omega)]
    have hreach := H.reach.local (t := t) hq (fun j _ h2 => hag j h2)
    rcases line_spec t hsz p (by omega) k' (by omega) with ⟨d, c, a, q', g1, g2, g3, _⟩ | ⟨q', st', g1, g2, g3, g4, g5⟩
    · obtain ⟨e1, _⟩ := hreach.det hst g3 (fin_stuck _ _ _ _)
      exact absurd e1 (H.nofin _ _)
    · obtain ⟨_, e2⟩ := hreach.det hst g3 g4
      subst e2
      rw [g1]
      simp only [Option.bind_some, Bool.false_eq_true, if_false]
      exact .inl ⟨trivial, hp⟩
  · rw [if_neg (by omega)]
    exact .inr ⟨l, rfl, by omega⟩
end Go.Proofs.YtdfndbegifdejaaDoor.GD
