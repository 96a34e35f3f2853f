/- FlowStable: the plain law, and the walk as the row asks it. -/
import Derived.Test.YtdfndbegifdejaaDoorGSx10
import Derived.Test.YtdfndbegifdejaaDoorHeads
import Derived.Test.YtdfndbegifdejaaDoorKFlowStable
import Derived.Test.YtdfndbegifdejaaDoorBulk
namespace Go.Proofs.YtdfndbegifdejaaDoor.GD
set_option linter.unusedVariables false
set_option linter.unusedSimpArgs false
open Go.RowKit Go.Proofs.YtdfndbegifdejaaDoorW.PrintWords Go.Proofs.YtdfndbegifdejaaDoorStab Go.Proofs.YtdfndbegifdejaaDoorMine

theorem cls_perm (a b : List S32) (h : ∀ k, Cls day k a = Cls day k b) : a.Perm b := by
  classical
  rw [List.perm_iff_count]
  intro x
  have hc : ∀ l : List S32, l.count x = (Cls day (day x) l).count x := by
    intro l
    unfold Cls
    rw [List.count_filter]
    simp
  rw [hc a, hc b, h]
theorem merge_exists (l : List (List S32)) : ∃ m, KSorted day m ∧ ∀ k, Cls day k m = Cls day k l.flatten := by
  have tr : ∀ a b c : S32, decide (day a ≤ day b) = true → decide (day b ≤ day c) = true → decide (day a ≤ day c) = true := by
    intro a b c h1 h2; simp at *; omega
  have tt_ : ∀ a b : S32, (decide (day a ≤ day b) || decide (day b ≤ day a)) = true := by
    intro a b; simp; omega
  refine ⟨l.flatten.mergeSort (fun a b => decide (day a ≤ day b)), ?_, ?_⟩
  · have h := List.pairwise_mergeSort tr tt_ l.flatten
    unfold KSorted
    exact h.imp (fun h => by simpa using h)
  · intro k
    have hp := List.mergeSort_perm l.flatten (fun a b => decide (day a ≤ day b))
    have hs : (Cls day k l.flatten).Sublist (l.flatten.mergeSort (fun a b => decide (day a ≤ day b))) := by
      refine List.sublist_mergeSort tr tt_ ?_ List.filter_sublist
      rw [List.pairwise_iff_forall_sublist]
      intro a b hab
      have ha := (mem_cls day).1 (hab.subset (by simp : a ∈ [a, b]))
      have hb := (mem_cls day).1 (hab.subset (by simp : b ∈ [a, b]))
      simp [ha.2, hb.2]
    have hs2 := hs.filter (fun x => decide (day x = k))
    have he : (Cls day k l.flatten).filter (fun x => decide (day x = k)) = Cls day k l.flatten := by
      unfold Cls; rw [List.filter_filter]; simp
    rw [he] at hs2
    have hl : (Cls day k l.flatten).length = (Cls day k (l.flatten.mergeSort (fun a b => decide (day a ≤ day b)))).length := by
      unfold Cls; exact (hp.symm.filter _).length_eq
    exact (hs2.eq_of_length hl).symm
theorem split_day (d : Int) : ∀ (l : List S32), KSorted day l → (∀ x ∈ l, d ≤ day x) → l = Cls day d l ++ l.filter (fun x => decide (d < day x))
  | [], _, _ => rfl
  | x :: r, hs, hm => by
    have hs' := List.pairwise_cons.1 hs
    by_cases hx : day x = d
    · have ih := split_day d r hs'.2 (fun y hy => hm y (by simp [hy]))
      unfold Cls at *
      rw [List.filter_cons_of_pos (by simpa using hx), List.filter_cons_of_neg (by simp; omega), List.cons_append, ← ih]
    · have hlt : d < day x := by have := hm x (by simp); omega
      have hall : ∀ y ∈ x :: r, d < day y := by
        intro y hy
        rcases List.mem_cons.1 hy with rfl | hy
        · exact hlt
        · have := hs'.1 y hy; omega
      have h1 : Cls day d (x :: r) = [] := by
        unfold Cls; rw [List.filter_eq_nil_iff]; intro y hy; have := hall y hy; simp; omega
      have h2 : (x :: r).filter (fun x => decide (d < day x)) = x :: r := by
        rw [List.filter_eq_self]; intro y hy; simpa using hall y hy
      rw [h1, h2]; rfl
section
variable (l0 : List (List S32)) (m : List S32) (hl0 : l0.length ≤ 1048576) (hml : m.length ≤ 1048576) (hin : ∀ l ∈ l0, l.length ≤ 1048576)
def Yes (f : Nat → Option Bool) : Prop := ∃ K, ∀ k, K < k → f k = some true
theorem Yes.step {f g : Nat → Option Bool} (h : Yes g) (e : ∀ k, f (k + 1) = g k) : Yes f := by
  obtain ⟨K, hK⟩ := h
  refine ⟨K + 1, fun k hk => ?_⟩
  obtain ⟨q, rfl⟩ : ∃ q, k = q + 1 := ⟨k - 1, by omega⟩
  rw [e]
  exact hK q (by omega)
theorem Yes.now {f : Nat → Option Bool} (e : ∀ k, f (k + 1) = some true) : Yes f := ⟨0, fun k hk => by
  obtain ⟨q, rfl⟩ : ∃ q, k = q + 1 := ⟨k - 1, by omega⟩
  exact e q⟩
include hl0 hml hin
theorem st_l4 (pre suf : List S32) (d : Int) (x11 : Int) (hm : m = pre ++ Cls day d l0.flatten ++ suf) (i : Nat) (hi : i < l0.length)
    (hnext : Yes fun k => payofflaw03_FlowStable.l3 k l0 m ((pre.length + (Cls day d (l0.take (i + 1)).flatten).length : Nat) : Int) x11 d ((i + 1 : Nat) : Int)) :
    ∀ (dj j : Nat), j + dj = l0[i].length → Yes fun k => payofflaw03_FlowStable.l4 k l0 m ((pre.length + (Cls day d ((l0.take i).flatten ++ l0[i].take j)).length : Nat) : Int) x11 d (i : Int) (j : Int) := by
  intro dj
  have hli := hin _ (List.getElem_mem hi)
  have htake : (l0.take (i + 1)).flatten = (l0.take i).flatten ++ l0[i] := by
    rw [List.take_succ_eq_append_getElem hi, List.flatten_append]; simp
  induction dj with
  | zero =>
    intro j hj
    refine Yes.step hnext fun k => ?_
    simp only [payofflaw03_FlowStable.l4]
    rw [if_pos (by omega), if_pos (by omega), rdL3 l0 i hi, if_neg (by omega), wn hi (by omega), htake, List.take_of_length_le (l := l0[i]) (i := j) (by omega)]
  | succ dj ih =>
    intro j hj
    have hjl : j < l0[i].length := by omega
    have htj : l0[i].take (j + 1) = l0[i].take j ++ [l0[i][j]] := List.take_succ_eq_append_getElem hjl
    have hfl : l0.flatten = ((l0.take i).flatten ++ l0[i].take j) ++ (l0[i][j] :: (l0[i].drop (j + 1) ++ (l0.drop (i + 1)).flatten)) := by
      conv => lhs; rw [← List.take_append_drop i l0, List.drop_eq_getElem_cons hi]
      conv => lhs; rw [List.flatten_append, List.flatten_cons]; arg 2; arg 1; rw [← List.take_append_drop j l0[i], List.drop_eq_getElem_cons hjl]
      simp only [List.append_assoc, List.cons_append]
    by_cases hd : l0[i][j].f0 = d
    · have hcls : Cls day d ((l0.take i).flatten ++ l0[i].take (j + 1)) = Cls day d ((l0.take i).flatten ++ l0[i].take j) ++ [l0[i][j]] := by
        rw [htj, ← List.append_assoc, cls_append]
        congr 1
        unfold Cls
        rw [List.filter_cons_of_pos (p := fun x => decide (day x = d)) (show decide (day l0[i][j] = d) = true from decide_eq_true hd)]; rfl
      have hm2 : m = (pre ++ Cls day d ((l0.take i).flatten ++ l0[i].take j)) ++ (l0[i][j] :: (Cls day d (l0[i].drop (j + 1) ++ (l0.drop (i + 1)).flatten) ++ suf)) := by
        rw [hm]
        conv => lhs; rw [hfl, cls_append]
        have : Cls day d (l0[i][j] :: (l0[i].drop (j + 1) ++ (l0.drop (i + 1)).flatten)) = l0[i][j] :: Cls day d (l0[i].drop (j + 1) ++ (l0.drop (i + 1)).flatten) := by
          unfold Cls
          rw [List.filter_cons_of_pos (p := fun x => decide (day x = d)) (show decide (day l0[i][j] = d) = true from decide_eq_true hd)]
        rw [this]
        simp only [List.append_assoc, List.cons_append]
      have hat : pre.length + (Cls day d ((l0.take i).flatten ++ l0[i].take j)).length < m.length := by
        have := congrArg List.length hm2
        simp only [List.length_append, List.length_cons] at this ⊢; omega
      have hget : m[pre.length + (Cls day d ((l0.take i).flatten ++ l0[i].take j)).length] = l0[i][j] := by
        have h0 : m[pre.length + (Cls day d ((l0.take i).flatten ++ l0[i].take j)).length]? = some l0[i][j] := by
          conv => lhs; rw [hm2]
          rw [List.getElem?_append_right (by simp)]
          simp
        rw [List.getElem?_eq_getElem hat] at h0
        exact Option.some.inj h0
      have hnx := ih (j + 1) (by omega)
      rw [hcls, List.length_append] at hnx
      refine Yes.step hnx fun k => ?_
      simp only [payofflaw03_FlowStable.l4]
      rw [if_pos (by omega), if_pos (by omega), rdL3 l0 i hi, if_pos (by omega), if_pos (by omega), prn_rd l0[i] j hjl, if_pos hd, if_neg (by omega), if_pos (by omega), if_pos (by omega), prn_rd m _ hat, hget, if_neg (by simp), wn hjl (by omega), wn hat (by omega)]
      rfl
    · have hcls : Cls day d ((l0.take i).flatten ++ l0[i].take (j + 1)) = Cls day d ((l0.take i).flatten ++ l0[i].take j) := by
        rw [htj, ← List.append_assoc, cls_append day d _ [l0[i][j]]]
        have : Cls day d [l0[i][j]] = [] := by
          unfold Cls
          rw [List.filter_cons_of_neg (p := fun x => decide (day x = d)) (show ¬ decide (day l0[i][j] = d) = true from fun e => hd (of_decide_eq_true e))]; rfl
        rw [this, List.append_nil]
      have hnx := ih (j + 1) (by omega)
      rw [hcls] at hnx
      refine Yes.step hnx fun k => ?_
      simp only [payofflaw03_FlowStable.l4]
      rw [if_pos (by omega), if_pos (by omega), rdL3 l0 i hi, if_pos (by omega), if_pos (by omega), prn_rd l0[i] j hjl, if_neg hd, wn hjl (by omega)]
theorem st_l3 (pre suf : List S32) (d : Int) (x11 : Int) (hm : m = pre ++ Cls day d l0.flatten ++ suf) (hne : ((pre.length + (Cls day d l0.flatten).length : Nat) : Int) ≠ x11)
    (hnext : Yes fun k => payofflaw03_FlowStable.l2 k l0 m ((pre.length + (Cls day d l0.flatten).length : Nat) : Int)) :
    ∀ (di i : Nat), i + di = l0.length → Yes fun k => payofflaw03_FlowStable.l3 k l0 m ((pre.length + (Cls day d (l0.take i).flatten).length : Nat) : Int) x11 d (i : Int) := by
  intro di
  induction di with
  | zero =>
    intro i hi
    refine Yes.step hnext fun k => ?_
    simp only [payofflaw03_FlowStable.l3]
    rw [if_neg (by omega), List.take_of_length_le (by omega), if_neg hne]
  | succ di ih =>
    intro i hi
    have hil : i < l0.length := by omega
    have h4 := st_l4 l0 m hl0 hml hin pre suf d x11 hm i hil (ih (i + 1) (by omega)) l0[i].length 0 (by omega)
    simp only [List.take_zero, List.append_nil] at h4
    refine Yes.step h4 fun k => ?_
    simp only [payofflaw03_FlowStable.l3]
    rw [if_pos (by omega)]
    rfl
theorem st_l2 (hs : KSorted day m) (hc : ∀ k, Cls day k m = Cls day k l0.flatten) : ∀ (n : Nat) (pre suf : List S32), suf.length ≤ n → m = pre ++ suf → (∀ x ∈ pre, ∀ y ∈ suf, day x < day y) → Yes fun k => payofflaw03_FlowStable.l2 k l0 m (pre.length : Int) := by
  intro n
  induction n with
  | zero =>
    intro pre suf hn hm _
    have : suf = [] := List.eq_nil_of_length_eq_zero (by omega)
    subst this
    refine Yes.now fun k => ?_
    simp only [payofflaw03_FlowStable.l2]
    rw [if_neg (by rw [hm]; simp)]
  | succ n ih =>
    intro pre suf hn hm hlt
    match suf, hn, hm, hlt with
    | [], _, hm, _ =>
      refine Yes.now fun k => ?_
      simp only [payofflaw03_FlowStable.l2]
      rw [if_neg (by rw [hm]; simp)]
    | y :: r, hn, hm, hlt =>
      have hat : pre.length < m.length := by rw [hm]; simp
      have hget : m[pre.length] = y := by simp [hm]
      have hsuf : KSorted day (y :: r) := by
        have := hs; rw [hm] at this
        exact (List.pairwise_append.1 this).2.1
      have hmin : ∀ x ∈ y :: r, day y ≤ day x := by
        intro x hx
        rcases List.mem_cons.1 hx with rfl | hx
        · exact Int.le_refl _
        · exact (List.pairwise_cons.1 hsuf).1 x hx
      have hsp := split_day (day y) (y :: r) hsuf hmin
      have hpre : Cls day (day y) pre = [] := cls_nil_of day fun x hx e => by have := hlt x hx y (by simp); omega
      have hcl : Cls day (day y) (y :: r) = Cls day (day y) l0.flatten := by
        rw [← hc, hm, cls_append, hpre, List.nil_append]
      have hm2 : m = pre ++ Cls day (day y) l0.flatten ++ (y :: r).filter (fun x => decide (day y < day x)) := by
        rw [← hcl, List.append_assoc, ← hsp]; exact hm
      have hpos : 0 < (Cls day (day y) l0.flatten).length := by
        rw [← hcl]
        exact List.length_pos_of_mem ((mem_cls day).2 ⟨by simp, rfl⟩)
      have hlen : ((y :: r).filter (fun x => decide (day y < day x))).length ≤ n := by
        have h1 := congrArg List.length hsp
        rw [List.length_append, hcl] at h1
        omega
      have h2 := ih (pre ++ Cls day (day y) l0.flatten) _ hlen hm2 (by
        intro x hx z hz
        have hz2 := List.mem_filter.1 hz
        have hz3 : day y < day z := by simpa using hz2.2
        rcases List.mem_append.1 hx with hx | hx
        · have := hlt x hx y (by simp); omega
        · have := ((mem_cls day).1 hx).2; omega)
      rw [List.length_append] at h2
      have h3 := st_l3 l0 m hl0 hml hin pre _ (day y) (pre.length : Int) hm2 (by omega) h2 l0.length 0 (by omega)
      simp only [List.take_zero, List.flatten_nil] at h3
      have hz : (Cls day (day y) ([] : List S32)).length = 0 := rfl
      rw [hz, Nat.add_zero] at h3
      have hj : Yes fun k => payofflaw03_FlowStable.j4 k l0 m (pre.length : Int) (pre.length : Int) (day y) false := Yes.step h3 fun k => by
        simp only [payofflaw03_FlowStable.j4, Bool.false_eq_true, if_false]; rfl
      refine Yes.step hj fun k => ?_
      simp only [payofflaw03_FlowStable.l2]
      rw [if_pos (by omega), if_pos (by omega), prn_rd m _ hat, hget]
      by_cases h0 : (pre.length : Int) > 0
      · have hp1 : pre.length - 1 < m.length := by omega
        have hw : wrap64 ((pre.length : Int) - 1) = ((pre.length - 1 : Nat) : Int) := by unfold wrap64; omega
        have hmem : m[pre.length - 1] ∈ pre := by
          have : m[pre.length - 1]? = pre[pre.length - 1]? := by
            conv => lhs; rw [hm]
            rw [List.getElem?_append_left (by omega)]
          rw [List.getElem?_eq_getElem hp1, List.getElem?_eq_getElem (show pre.length - 1 < pre.length by omega)] at this
          rw [Option.some.inj this]
          exact List.getElem_mem _
        have hd := hlt _ hmem y (by simp)
        rw [if_pos h0, hw, if_pos (by omega), if_pos (by omega), prn_rd m _ hp1, decide_eq_false (by unfold day at hd; omega)]
        rfl
      · rw [if_neg h0]
        rfl
end
theorem not_bad (l : List S32) (hs : KSorted day l) (j : Nat) (hj : j < l.length) (h1 : 1 ≤ j) : ¬ l[j].f0 < (l[j - 1]'(by omega)).f0 := by
  have := (List.pairwise_iff_getElem.1 hs) (j - 1) j (by omega) hj (by omega)
  unfold day at this; omega
section
variable (l0 : List (List S32)) (hl0 : l0.length ≤ 1048576) (hfl : l0.flatten.length ≤ 1048576)
theorem flat_take (i : Nat) (hi : i < l0.length) : (l0.take (i + 1)).flatten.length = (l0.take i).flatten.length + l0[i].length := by
  rw [List.take_succ_eq_append_getElem hi, List.flatten_append]; simp
theorem flat_le2 (i : Nat) : (l0.take i).flatten.length ≤ l0.flatten.length := by
  conv => rhs; rw [← List.take_append_drop i l0, List.flatten_append, List.length_append]
  omega
theorem inner_le (hfl : l0.flatten.length ≤ 1048576) : ∀ l ∈ l0, l.length ≤ 1048576 := by
  intro l hl
  have := (List.sublist_flatten_of_mem hl).length_le
  omega
include hl0 hfl
theorem st_l1 (m : List S32) (r2 : Int) (hM : flow_Merge.f l0 = some (m, r2)) (hG : Good l0 m r2) (i : Nat) (hi : i < l0.length) (x3 : Int)
    (hnext : KSorted day l0[i] → Yes fun k => payofflaw03_FlowStable.l0 k l0 (wrap64 (x3 + (l0[i].length : Int))) ((i + 1 : Nat) : Int)) :
    ∀ (dj j : Nat), l0[i].length ≤ j + dj → 1 ≤ j → (∀ q, q + 1 < j → (hq : q + 1 < l0[i].length) → (l0[i][q]'(by omega)).f0 ≤ l0[i][q + 1].f0) → Yes fun k => payofflaw03_FlowStable.l1 k l0 x3 (i : Int) (j : Int) := by
  have hli := inner_le l0 hfl _ (List.getElem_mem hi)
  have stop : ∀ j : Nat, 1 ≤ j → l0[i].length ≤ j → (∀ q, q + 1 < j → (hq : q + 1 < l0[i].length) → (l0[i][q]'(by omega)).f0 ≤ l0[i][q + 1].f0) → Yes fun k => payofflaw03_FlowStable.l1 k l0 x3 (i : Int) (j : Int) := by
    intro j hj1 hle hup
    have hso : KSorted day l0[i] := upTo_sorted l0[i] fun q hq => by
      rw [rd32 _ q (by omega), rd32 _ (q + 1) hq]
      exact hup q (by omega) hq
    refine Yes.step (hnext hso) fun k => ?_
    simp only [payofflaw03_FlowStable.l1]
    rw [if_pos (by omega), if_pos (by omega), rdL3 l0 i hi, if_neg (by omega), wn hi (by omega)]
  intro dj
  induction dj with
  | zero => exact fun j hj h1 hup => stop j h1 (by omega) hup
  | succ dj ih =>
    intro j hj h1 hup
    by_cases hjl : j < l0[i].length
    · have hw : wrap64 ((j : Int) - 1) = ((j - 1 : Nat) : Int) := by unfold wrap64; omega
      by_cases hbad : l0[i][j].f0 < (l0[i][j - 1]'(by omega)).f0
      · have hr : r2 = 1 := by
          rcases hG with ⟨hs, _⟩ | ⟨_, h, _⟩
          · exact absurd hbad (not_bad _ (hs _ (List.getElem_mem hi)) j hjl h1)
          · exact h
        refine Yes.now fun k => ?_
        simp only [payofflaw03_FlowStable.l1]
        rw [if_pos (by omega), if_pos (by omega), rdL3 l0 i hi, if_pos (by omega), if_pos (by omega), hw, if_pos (by omega), if_pos (by omega), prn_rd l0[i] j hjl, prn_rd l0[i] (j - 1) (by omega), if_pos hbad, hM]
        simp only [Option.bind_some, hr]
        rfl
      · have hn := ih (j + 1) (by omega) (by omega) (by
          intro q hq hq2
          by_cases e : q + 1 = j
          · subst e
            simp only [Nat.add_sub_cancel] at hbad
            omega
          · exact hup q (by omega) hq2)
        refine Yes.step hn fun k => ?_
        simp only [payofflaw03_FlowStable.l1]
        rw [if_pos (by omega), if_pos (by omega), rdL3 l0 i hi, if_pos (by omega), if_pos (by omega), hw, if_pos (by omega), if_pos (by omega), prn_rd l0[i] j hjl, prn_rd l0[i] (j - 1) (by omega), if_neg hbad, wn hjl (by omega)]
    · exact stop j h1 (by omega) hup
theorem st_l0 (m : List S32) (r2 : Int) (hM : flow_Merge.f l0 = some (m, r2)) (hG : Good l0 m r2) :
    ∀ (di i : Nat), i + di = l0.length → (∀ q, (hq : q < l0.length) → q < i → KSorted day l0[q]) → Yes fun k => payofflaw03_FlowStable.l0 k l0 ((l0.take i).flatten.length : Int) (i : Int) := by
  intro di
  induction di with
  | zero =>
    intro i hi hs
    have hall : ∀ l ∈ l0, KSorted day l := by
      intro l hl
      obtain ⟨q, hq, rfl⟩ := List.mem_iff_getElem.1 hl
      exact hs q hq (by omega)
    rcases hG with ⟨_, rfl, hk, hc⟩ | ⟨⟨l, hl, hn⟩, _⟩
    · have hlen : m.length = l0.flatten.length := (cls_perm _ _ hc).length_eq
      have h2 := st_l2 l0 m hl0 (by omega) (inner_le l0 hfl) hk hc m.length [] m (Nat.le_refl _) rfl (fun x hx => by cases hx)
      have hj : Yes fun k => payofflaw03_FlowStable.j2 k l0 m false := Yes.step h2 fun k => by
        simp only [payofflaw03_FlowStable.j2, Bool.false_eq_true, if_false]; rfl
      refine Yes.step hj fun k => ?_
      simp only [payofflaw03_FlowStable.l0]
      rw [if_neg (by omega), hM]
      simp only [Option.bind_some, if_true]
      have hz : ((m.length : Int) != ((l0.take i).flatten.length : Int)) = false := by
        rw [List.take_of_length_le (by omega), hlen]; simp
      rw [hz]
    · exact absurd (hall l hl) hn
  | succ di ih =>
    intro i hi hs
    have hil : i < l0.length := by omega
    have hf := flat_le2 l0 (i + 1)
    have hft := flat_take l0 i hil
    have h1 := st_l1 l0 hl0 hfl m r2 hM hG i hil ((l0.take i).flatten.length : Int) (fun hso => by
      have hn := ih (i + 1) (by omega) (by
        intro q hq hq2
        by_cases e : q = i
        · subst e; exact hso
        · exact hs q hq (by omega))
      have hw : wrap64 (((l0.take i).flatten.length : Int) + (l0[i].length : Int)) = ((l0.take (i + 1)).flatten.length : Int) := by rw [hft]; unfold wrap64; omega
      rw [hw]; exact hn) l0[i].length 1 (by omega) (by omega) (fun q hq => by omega)
    refine Yes.step h1 fun k => ?_
    simp only [payofflaw03_FlowStable.l0]
    rw [if_pos (by omega)]
    rfl
theorem FlowStable.pure : ∃ k, payofflaw03_FlowStable.f k l0 = some true := by
  have hex : ∃ m r2, Good l0 m r2 := by
    by_cases h : ∀ l ∈ l0, KSorted day l
    · obtain ⟨m, h1, h2⟩ := merge_exists l0
      exact ⟨m, 0, .inl ⟨h, rfl, h1, h2⟩⟩
    · refine ⟨[], 1, .inr ⟨?_, rfl, rfl⟩⟩
      apply Classical.byContradiction
      intro hno
      exact h fun l hl => Classical.byContradiction fun hn => hno ⟨l, hl, hn⟩
  obtain ⟨m, r2, hG⟩ := hex
  have hM := flow_Merge.of_good hl0 hfl hG
  obtain ⟨K, hK⟩ := st_l0 l0 hl0 hfl m r2 hM hG l0.length 0 (by omega) (fun q _ h => by omega)
  refine ⟨K + 100, ?_⟩
  unfold payofflaw03_FlowStable.f
  rw [heads_f _ (by omega)]
  simp only [Option.bind_some, if_true]
  exact hK (K + 100) (by omega)
end
theorem bk22_len (l : List S32) : l.length ≤ bk22 l := by
  have := dsum_len (fun a => bk32 a) (fun a => by unfold bk32; omega) l
  unfold bk22; omega
theorem bk46_flat : ∀ l : List (List S32), l.flatten.length + 1 ≤ bk46 l
  | [] => by simp [bk46, dsum]
  | a :: r => by
    have h1 := bk46_flat r
    have h2 := bk22_len a
    unfold bk46 at *
    simp only [List.flatten_cons, List.length_append, List.map_cons, dsum]
    omega
theorem bk46_len (l : List (List S32)) : l.length ≤ bk46 l := by
  have := dsum_len (fun a => bk22 a) (fun a => by unfold bk22; omega) l
  unfold bk46; omega
theorem FlowStable.walk (A0 : Option Addr) (c0 : Nat) (l0 : List (List S32)) (w : World) (HT : Aside0 (ItoaTab w)) (hr0 : Kd.C (Kd.slice 32 k32) w A0 l0.length l0) (hc0 : l0.length ≤ c0) (_ : WF46 l0) (hb : bk46 l0 ≤ 1048576) :
    Calls Tryd.prog 8 #[.slice A0 l0.length c0] w fun e w' => e = .returned (.bool true) ∧ Below w.heap.size w w' := by
  obtain ⟨k, hk⟩ := FlowStable.pure l0 (Nat.le_trans (bk46_len l0) hb) (by have := bk46_flat l0; omega)
  exact payofflaw03_FlowStable.calls k A0 c0 l0 true w HT hr0 hc0 hk
end Go.Proofs.YtdfndbegifdejaaDoor.GD
