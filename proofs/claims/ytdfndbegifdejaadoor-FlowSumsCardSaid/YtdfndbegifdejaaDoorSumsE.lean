/- FlowSums: its loops, and the walk as the row asks it. -/
import Derived.Test.YtdfndbegifdejaaDoorSumsD
import Derived.Test.YtdfndbegifdejaaDoorGSx8
import Derived.Test.YtdfndbegifdejaaDoorHeads
import Derived.Test.YtdfndbegifdejaaDoorKFlowSums
namespace Go.Proofs.YtdfndbegifdejaaDoor.GD
set_option linter.unusedVariables false
set_option linter.unusedSimpArgs false
open Go.RowKit Go.Proofs.YtdfndbegifdejaaDoorW.PrintWords Go.Sort
open Classical
def Yea (f : Nat → Option Bool) : Prop := ∃ K, ∀ k, K < k → f k = some true
theorem Yea.step {f g : Nat → Option Bool} (h : Yea g) (K0 : Nat) (e : ∀ k, K0 ≤ k → f (k + 1) = g k) : Yea f := by
  obtain ⟨K, hK⟩ := h
  refine ⟨K + K0 + 1, fun k hk => ?_⟩
  obtain ⟨q, rfl⟩ : ∃ q, k = q + 1 := ⟨k - 1, by omega⟩
  rw [e q (by omega)]
  exact hK q (by omega)
theorem Yea.now {f : Nat → Option Bool} (K0 : Nat) (e : ∀ k, K0 ≤ k → f (k + 1) = some true) : Yea f := ⟨K0, fun k hk => by
  obtain ⟨q, rfl⟩ : ∃ q, k = q + 1 := ⟨k - 1, by omega⟩
  exact e q (by omega)⟩
theorem toL_eq {a b : ByteArray} : a.toList = b.toList ↔ a = b := by
  rw [ByteArray.toList_eq, ByteArray.toList_eq]
  exact ⟨ba_ext, fun h => by rw [h]⟩
/-! ### small -/
def shr (x : S32) : S32 := ⟨x.f0, x.f1, Int.tmod x.f2 1099511627776⟩
def smallL (l : List S32) : List S32 := (l.take 1048576).map shr
theorem small_l0 (l : List S32) (hl : l.length ≤ 140737488355327) : ∀ (d n k : Nat) (acc : List S32), n + d = l.length → d < k → acc.length = n → n ≤ 1048576 →
    payofflaw03_small.l0 k l acc (n : Int) = some (acc ++ ((l.drop n).take (1048576 - n)).map shr) := by
  intro d
  induction d with
  | zero =>
    intro n k acc hn hk ha hb
    obtain ⟨k, rfl⟩ : ∃ q, k = q + 1 := ⟨k - 1, by omega⟩
    simp only [payofflaw03_small.l0]
    rw [if_neg (by omega), List.drop_of_length_le (by omega)]
    simp
  | succ d ih =>
    intro n k acc hn hk ha hb
    obtain ⟨k, rfl⟩ : ∃ q, k = q + 1 := ⟨k - 1, by omega⟩
    have hlt : n < l.length := by omega
    simp only [payofflaw03_small.l0]
    rw [if_pos (by omega)]
    by_cases h20 : n < 1048576
    · rw [if_pos (by omega), if_pos (by omega), if_pos (by omega), prn_rd l n hlt, wn hlt (by omega), ih (n + 1) k _ (by omega) (by omega) (by simp; omega) (by omega)]
      rw [List.drop_eq_getElem_cons hlt, show 1048576 - n = (1048576 - (n + 1)) + 1 by omega, List.take_succ_cons, List.map_cons, List.append_assoc]
      rfl
    · rw [if_neg (by omega), show 1048576 - n = 0 by omega]
      simp
theorem small_f (l : List S32) (hl : l.length ≤ 140737488355327) (k : Nat) (hk : l.length < k) : payofflaw03_small.f k l = some (smallL l) := by
  have := small_l0 l hl l.length 0 k [] (by omega) hk rfl (by omega)
  unfold payofflaw03_small.f smallL
  simpa using this
theorem tmod_abs (n : Int) : (Int.tmod n 1099511627776).natAbs ≤ 1099511627776 := by
  rw [Int.natAbs_tmod]
  exact Nat.le_of_lt (Nat.mod_lt _ (by decide))
/-! ### Compare -/
theorem or_first (t1 t2 t3 : Int) (h : t1 ≠ 0) : cmp_Or_int.f 9 [t1, t2, t3] = some t1 := by
  have e0 : Go.Proofs.YtdfndbegifdejaaDoorW.PrintWords.rd [t1, t2, t3] 0 = t1 := rfl
  simp [cmp_Or_int.f, cmp_Or_int.l0, e0, h]
theorem or_second (t2 t3 : Int) (h : t2 ≠ 0) : cmp_Or_int.f 9 [0, t2, t3] = some t2 := by
  have e0 : Go.Proofs.YtdfndbegifdejaaDoorW.PrintWords.rd [0, t2, t3] 0 = 0 := rfl
  have e1 : Go.Proofs.YtdfndbegifdejaaDoorW.PrintWords.rd [0, t2, t3] 1 = t2 := rfl
  have w1 : wrap64 1 = 1 := by unfold wrap64; omega
  simp [cmp_Or_int.f, cmp_Or_int.l0, e0, e1, w1, h]
theorem compare_lt (x y : S32) (h : pless (plOf x) (plOf y) = true) : ∃ t, t < 0 ∧ flow_Compare.f 9 x.f0 x.f1 x.f2 y.f0 y.f1 y.f2 = some t := by
  unfold flow_Compare.f
  rw [cmpC_f, cmpC_f]
  unfold strings_Compare.f
  simp only [Option.bind_some]
  simp only [pless, plOf, Bool.or_eq_true, Bool.and_eq_true, decide_eq_true_eq] at h
  rcases h with h | ⟨h1, h2⟩
  · have h : x.f0 < y.f0 := of_decide_eq_true h
    have hc : c3 x.f0 y.f0 = -1 := by unfold c3; rw [if_pos h]
    rw [hc, or_first (-1) _ _ (by decide)]
    exact ⟨-1, by decide, rfl⟩
  · have h1 : x.f0 = y.f0 := of_decide_eq_true h1
    have h2 : sless x.f1 y.f1 = true := h2
    have hc : c3 x.f0 y.f0 = 0 := by unfold c3; rw [if_neg (by omega), if_neg (by omega)]
    have hs : scmp x.f1 y.f1 < 0 := by
      have := congrFun (congrFun ltOf_scmp x.f1) y.f1
      unfold ltOf at this
      rw [h2] at this
      exact of_decide_eq_true this
    have hs2 : Lib.compareBytes x.f1.data.toList y.f1.data.toList < 0 := hs
    rw [hc, or_second _ _ (by omega)]
    exact ⟨_, hs2, rfl⟩
theorem strict {ks : List Pl} (hn : ks.Nodup) (hs : ks.Pairwise (fun a b => pless b a = false)) (i : Nat) (hi : i + 1 < ks.length) : pless ks[i] ks[i + 1] = true := by
  have h1 := List.pairwise_iff_getElem.1 hs i (i + 1) (by omega) hi (by omega)
  cases h2 : pless ks[i] ks[i + 1] with
  | true => rfl
  | false =>
    have h3 := pless_ext h2 h1
    have h4 := List.pairwise_iff_getElem.1 hn i (i + 1) (by omega) hi (by omega)
    exact absurd h3 h4
theorem netL_len (m : List S32) (ks : List Pl) : (netL m ks).length = ks.length := by simp [netL]
theorem ks_len {m : List S32} (hS : SmallL m) {ks : List Pl} (hk : PlaceList m ks) (hm : ∀ c, c ∈ ks ↔ c ∈ m.map plOf) : ks.length ≤ 1048576 := Nat.le_trans (places_len m ks hk.nodup (fun c h => (hm c).1 h)) hS.len
theorem netL_get (m : List S32) (ks : List Pl) (i : Nat) (hi : i < ks.length) : (netL m ks)[i]'(by simpa [netL] using hi) = ⟨ks[i].d, ks[i].c, gs m ks[i]⟩ := by simp [netL]
section
variable (m : List S32) (hS : SmallL m) (ks : List Pl) (hk : PlaceList m ks) (hm : ∀ c, c ∈ ks ↔ c ∈ m.map plOf)
include hS hk hm
theorem su_l1 (i : Nat) (hi : i < ks.length) (hnext : Yea fun k => payofflaw03_FlowSums.l0 k m (netL m ks) ((i + 1 : Nat) : Int)) :
    ∀ (d j : Nat), j + d = m.length → Yea fun k => payofflaw03_FlowSums.l1 k m (netL m ks) (i : Int) ((amts ((m.take j).filter (fun x => decide (plOf x = ks[i])))).sum) (!((m.take j).filter (fun x => decide (plOf x = ks[i]))).isEmpty) (j : Int) := by
  have hnl := netL_len m ks
  have hkl := ks_len hS hk hm
  have hml := hS.len
  have hg := netL_get m ks i hi
  have hge : rd_T32 (netL m ks) (i : Int) = ⟨ks[i].d, ks[i].c, gs m ks[i]⟩ := by rw [prn_rd _ i (by omega), hg]
  intro d
  induction d with
  | zero =>
    intro j hj
    refine Yea.step hnext 0 fun k _ => ?_
    have htk : m.take j = m := List.take_of_length_le (by omega)
    obtain ⟨x, hx, hxe⟩ := List.mem_map.1 ((hm _).1 (List.getElem_mem hi))
    have hne : (!(m.filter (fun x => decide (plOf x = ks[i]))).isEmpty) = true := by
      have : x ∈ m.filter (fun x => decide (plOf x = ks[i])) := List.mem_filter.2 ⟨hx, by simpa using hxe⟩
      cases hq : m.filter (fun x => decide (plOf x = ks[i])) with
      | nil => rw [hq] at this; cases this
      | cons => rfl
    simp only [payofflaw03_FlowSums.l1]
    rw [if_neg (by omega), htk, if_pos hne, if_pos (by omega), if_pos (by omega), hge]
    have hq : (amts (m.filter (fun x => decide (plOf x = ks[i])))).sum = ((⟨ks[i].d, ks[i].c, gs m ks[i]⟩ : S32)).f2 := rfl
    rw [if_pos hq, wn hi (by omega)]
  | succ d ih =>
    intro j hj
    have hjl : j < m.length := by omega
    have hn := ih (j + 1) (by omega)
    have htk : m.take (j + 1) = m.take j ++ [m[j]] := List.take_succ_eq_append_getElem hjl
    refine Yea.step hn 0 fun k _ => ?_
    simp only [payofflaw03_FlowSums.l1]
    rw [if_pos (by omega), if_pos (by omega), if_pos (by omega), if_pos (by omega), hge, prn_rd m j hjl, htk, List.filter_append]
    by_cases h1 : m[j].f0 = ks[i].d
    · by_cases h2 : m[j].f1.toList = ks[i].c.toList
      · have he : plOf m[j] = ks[i] := by
          unfold plOf
          rw [h1, toL_eq.1 h2]
        have hf : [m[j]].filter (fun x => decide (plOf x = ks[i])) = [m[j]] := by rw [List.filter_cons_of_pos (by simpa using he)]; rfl
        rw [if_pos h1, if_pos h2, hf]
        have hb : absL (amts ((m.take j).filter (fun x => decide (plOf x = ks[i])) ++ [m[j]])) ≤ 1152921504606846976 := by
          have e : (m.take j).filter (fun x => decide (plOf x = ks[i])) ++ [m[j]] = (m.take (j + 1)).filter (fun x => decide (plOf x = ks[i])) := by rw [htk, List.filter_append, hf]
          rw [e]
          have g1 := abs_filter (fun x => decide (plOf x = ks[i])) (m.take (j + 1))
          have g2 : absL (amts (m.take (j + 1))) ≤ absL (amts m) := by
            conv => rhs; rw [← List.take_append_drop (j + 1) m]
            unfold amts; rw [List.map_append, absL_append]; omega
          have := hS.abs
          omega
        have hsum : (amts ((m.take j).filter (fun x => decide (plOf x = ks[i])) ++ [m[j]])).sum = (amts ((m.take j).filter (fun x => decide (plOf x = ks[i])))).sum + m[j].f2 := by simp [amts]
        have hw : wrap64 ((amts ((m.take j).filter (fun x => decide (plOf x = ks[i])))).sum + m[j].f2) = (amts ((m.take j).filter (fun x => decide (plOf x = ks[i])))).sum + m[j].f2 := by
          have := sum_abs (amts ((m.take j).filter (fun x => decide (plOf x = ks[i])) ++ [m[j]]))
          rw [hsum] at this
          unfold wrap64; omega
        have hne2 : (!((m.take j).filter (fun x => decide (plOf x = ks[i])) ++ [m[j]]).isEmpty) = true := by
          cases hc : (m.take j).filter (fun x => decide (plOf x = ks[i])) <;> rfl
        rw [hw, hsum, hne2, wn hjl (by omega)]
      · have hne : ¬ plOf m[j] = ks[i] := fun e => h2 (by rw [← e]; rfl)
        have hf : [m[j]].filter (fun x => decide (plOf x = ks[i])) = [] := by rw [List.filter_cons_of_neg (by simpa using hne)]; rfl
        rw [if_pos h1, if_neg h2, hf, List.append_nil, wn hjl (by omega)]
    · have hne : ¬ plOf m[j] = ks[i] := fun e => h1 (by rw [← e]; rfl)
      have hf : [m[j]].filter (fun x => decide (plOf x = ks[i])) = [] := by rw [List.filter_cons_of_neg (by simpa using hne)]; rfl
      rw [if_neg h1, hf, List.append_nil, wn hjl (by omega)]
theorem su_l0 (hend : Yea fun k => payofflaw03_FlowSums.l2 k m (netL m ks) [] (wrap64 ((m.length : Int) - 1))) :
    ∀ (d i : Nat), i + d = ks.length → Yea fun k => payofflaw03_FlowSums.l0 k m (netL m ks) (i : Int) := by
  have hnl := netL_len m ks
  have hkl := ks_len hS hk hm
  intro d
  induction d with
  | zero =>
    intro i hi
    refine Yea.step hend 0 fun k _ => ?_
    simp only [payofflaw03_FlowSums.l0]
    rw [if_neg (by omega)]
  | succ d ih =>
    intro i hi
    have hil : i < ks.length := by omega
    have h1 := su_l1 m hS ks hk hm i hil (ih (i + 1) (by omega)) m.length 0 (by omega)
    have hj : Yea fun k => payofflaw03_FlowSums.j1 k m (netL m ks) (i : Int) false := Yea.step h1 0 fun k _ => by
      simp only [payofflaw03_FlowSums.j1, Bool.false_eq_true, if_false]
      rfl
    refine Yea.step hj 9 fun k hk9 => ?_
    simp only [payofflaw03_FlowSums.l0]
    rw [if_pos (by omega)]
    by_cases h0 : (i : Int) > 0
    · have hi1 : i - 1 + 1 < ks.length := by omega
      have hw : wrap64 ((i : Int) - 1) = ((i - 1 : Nat) : Int) := by unfold wrap64; omega
      have hst := strict hk.nodup hk.sorted (i - 1) hi1
      have hii : i - 1 + 1 = i := by omega
      simp only [hii] at hst
      have ha := netL_get m ks (i - 1) (by omega)
      have hb := netL_get m ks i hil
      have hx : plOf ((netL m ks)[i - 1]'(by omega)) = ks[i - 1] := by rw [ha]; rfl
      have hy : plOf ((netL m ks)[i]'(by omega)) = ks[i] := by rw [hb]; rfl
      obtain ⟨t, ht, hcmp⟩ := compare_lt ((netL m ks)[i - 1]'(by omega)) ((netL m ks)[i]'(by omega)) (by rw [hx, hy]; exact hst)
      have hcmp2 := mono_le (fun k => flow_Compare.mono ((netL m ks)[i - 1]'(by omega)).f0 ((netL m ks)[i - 1]'(by omega)).f1 ((netL m ks)[i - 1]'(by omega)).f2 ((netL m ks)[i]'(by omega)).f0 ((netL m ks)[i]'(by omega)).f1 ((netL m ks)[i]'(by omega)).f2 k) hk9 hcmp
      rw [if_pos h0, hw, if_pos (by omega), if_pos (by omega), if_pos (by omega), prn_rd _ (i - 1) (by omega), prn_rd _ i (by omega), hcmp2]
      simp only [Option.bind_some]
      rw [if_neg (by omega)]
      by_cases hd : ((netL m ks)[i - 1]'(by omega)).f0 = ((netL m ks)[i]'(by omega)).f0
      · have hne : (((netL m ks)[i - 1]'(by omega)).f1.toList == ((netL m ks)[i]'(by omega)).f1.toList) = false := by
          apply beq_eq_false_iff_ne.2
          intro e
          have e := toL_eq.1 e
          rw [ha, hb] at e hd
          have : ks[i - 1] = ks[i] := by
            have q1 : ks[i - 1].d = ks[i].d := hd
            have q2 : ks[i - 1].c = ks[i].c := e
            cases hA : ks[i - 1]; cases hB : ks[i]
            rw [hA, hB] at q1 q2
            simp at q1 q2
            rw [q1, q2]
          rw [this] at hst
          rw [swo_pless.irrefl] at hst
          cases hst
        rw [if_pos hd, hne]
      · rw [if_neg hd]
    · rw [if_neg h0]
theorem cn_l0 : Yea fun k => payofflaw03_counted.f k m (netL m ks) := by
  have hnl := netL_len m ks
  have hkl := ks_len hS hk hm
  have hml := hS.len
  have key : ∀ (d i : Nat), i + d = m.length → Yea fun k => payofflaw03_counted.l0 k m (netL m ks) (i : Int) := by
    intro d
    induction d with
    | zero =>
      intro i hi
      refine Yea.now 0 fun k _ => ?_
      simp only [payofflaw03_counted.l0]
      rw [if_neg (by omega)]
    | succ d ih =>
      intro i hi
      have hil : i < m.length := by omega
      have hn := ih (i + 1) (by omega)
      have hdone : ∀ j : Int, Yea fun k => payofflaw03_counted.l1 k m (netL m ks) (i : Int) true j := fun j => Yea.step hn 0 fun k _ => by
        simp only [payofflaw03_counted.l1, if_true]
        rw [wn hil (by omega)]
        split <;> rfl
      obtain ⟨q, hq, hqe⟩ := List.mem_iff_getElem.1 ((hm (plOf m[i])).2 (List.mem_map.2 ⟨_, List.getElem_mem hil, rfl⟩))
      have l1 : ∀ (e j : Nat), j + e = ks.length → j ≤ q → Yea fun k => payofflaw03_counted.l1 k m (netL m ks) (i : Int) false (j : Int) := by
        intro e
        induction e with
        | zero => intro j hj hjq; omega
        | succ e ih2 =>
          intro j hj hjq
          have hjl : j < ks.length := by omega
          have hge : rd_T32 (netL m ks) (j : Int) = ⟨ks[j].d, ks[j].c, gs m ks[j]⟩ := by rw [prn_rd _ j (by omega), netL_get m ks j hjl]
          by_cases h1 : ks[j].d = m[i].f0
          · by_cases h2 : ks[j].c.toList = m[i].f1.toList
            · refine Yea.step (hdone ((j + 1 : Nat) : Int)) 0 fun k _ => ?_
              simp only [payofflaw03_counted.l1, Bool.false_eq_true, if_false]
              rw [if_pos (by omega), if_pos (by omega), if_pos (by omega), if_pos (by omega), hge, prn_rd m i hil, if_pos h1, beq_iff_eq.2 h2, wn hjl (by omega)]
            · have hjq2 : j + 1 ≤ q := by
                rcases Nat.lt_or_ge j q with h | h
                · omega
                · obtain rfl : j = q := by omega
                  exact absurd (by rw [hqe]; rfl) h2
              refine Yea.step (ih2 (j + 1) (by omega) hjq2) 0 fun k _ => ?_
              simp only [payofflaw03_counted.l1, Bool.false_eq_true, if_false]
              rw [if_pos (by omega), if_pos (by omega), if_pos (by omega), if_pos (by omega), hge, prn_rd m i hil, if_pos h1, beq_eq_false_iff_ne.2 h2, wn hjl (by omega)]
          · have hjq2 : j + 1 ≤ q := by
              rcases Nat.lt_or_ge j q with h | h
              · omega
              · obtain rfl : j = q := by omega
                exact absurd (by rw [hqe]; rfl) h1
            refine Yea.step (ih2 (j + 1) (by omega) hjq2) 0 fun k _ => ?_
            simp only [payofflaw03_counted.l1, Bool.false_eq_true, if_false]
            rw [if_pos (by omega), if_pos (by omega), if_pos (by omega), if_pos (by omega), hge, prn_rd m i hil, if_neg h1, wn hjl (by omega)]
      refine Yea.step (l1 ks.length 0 (by omega) (by omega)) 0 fun k _ => ?_
      simp only [payofflaw03_counted.l0]
      rw [if_pos (by omega)]
      rfl
  unfold payofflaw03_counted.f
  exact key m.length 0 (by omega)
end
theorem same_yea (a : List S32) (hl : a.length ≤ 1048576) : ∀ k, a.length < k → payofflaw03_same.f k a a = some true := by
  have key : ∀ (d n k : Nat), n + d = a.length → d < k → payofflaw03_same.l0 k a a (n : Int) = some true := by
    intro d
    induction d with
    | zero =>
      intro n k hn hk
      obtain ⟨k, rfl⟩ : ∃ q, k = q + 1 := ⟨k - 1, by omega⟩
      simp only [payofflaw03_same.l0]
      rw [if_neg (by omega)]
    | succ d ih =>
      intro n k hn hk
      obtain ⟨k, rfl⟩ : ∃ q, k = q + 1 := ⟨k - 1, by omega⟩
      simp only [payofflaw03_same.l0]
      rw [if_pos (by omega), if_pos (by omega), if_pos (by omega), if_neg (by simp), wn (show n < a.length by omega) (by omega)]
      exact ih (n + 1) k (by omega) (by omega)
  intro k hk
  unfold payofflaw03_same.f
  rw [if_pos rfl]
  exact key a.length 0 k (by omega) hk
theorem sameT_yea (a : List S79) (hl : a.length ≤ 1048576) : ∀ k, a.length < k → payofflaw03_sameTotals.f k a a = some true := by
  have key : ∀ (d n k : Nat), n + d = a.length → d < k → payofflaw03_sameTotals.l0 k a a (n : Int) = some true := by
    intro d
    induction d with
    | zero =>
      intro n k hn hk
      obtain ⟨k, rfl⟩ : ∃ q, k = q + 1 := ⟨k - 1, by omega⟩
      simp only [payofflaw03_sameTotals.l0]
      rw [if_neg (by omega)]
    | succ d ih =>
      intro n k hn hk
      obtain ⟨k, rfl⟩ : ∃ q, k = q + 1 := ⟨k - 1, by omega⟩
      simp only [payofflaw03_sameTotals.l0]
      rw [if_pos (by omega), if_pos (by omega), if_pos (by omega), if_neg (by simp), wn (show n < a.length by omega) (by omega)]
      exact ih (n + 1) k (by omega) (by omega)
  intro k hk
  unfold payofflaw03_sameTotals.f
  rw [if_pos rfl]
  exact key a.length 0 k (by omega) hk
theorem su_l2 (m : List S32) (hS : SmallL m) (ks : List Pl) (hk : PlaceList m ks) (hm : ∀ c, c ∈ ks ↔ c ∈ m.map plOf) :
    ∀ (j : Nat), j ≤ m.length → Yea fun k => payofflaw03_FlowSums.l2 k m (netL m ks) (m.drop j).reverse ((j : Int) - 1) := by
  have hnl := netL_len m ks
  have hkl := ks_len hS hk hm
  have hml := hS.len
  obtain ⟨l, hl, hlm⟩ := keys_exist m
  have hll : l.length ≤ 1048576 := by
    have h := nodup_len l (m.map (·.f1)) hl.nodup (fun c hc => (hlm c).1 hc)
    simp at h; omega
  have htl : (totL m l).length = l.length := by simp [totL]
  intro j
  induction j with
  | zero =>
    intro _
    obtain ⟨K, hK⟩ := cn_l0 m hS ks hk hm
    refine Yea.now (K + ks.length + l.length + 1) fun k hk2 => ?_
    simp only [payofflaw03_FlowSums.l2]
    rw [if_neg (by omega), List.drop_zero, net_rev hS hk, tot_small hS hl, tot_net hS hk hm (places_len m ks hk.nodup (fun c h => (hm c).1 h)) hl]
    simp only [Option.bind_some, if_true]
    rw [same_yea _ (by omega) k (by omega)]
    simp only [Option.bind_some, if_true]
    rw [sameT_yea _ (by omega) k (by omega)]
    simp only [Option.bind_some, if_true]
    have hKk : payofflaw03_counted.f k m (netL m ks) = some true := hK k (by omega)
    rw [hKk]
    rfl
  | succ j ih =>
    intro hj
    have hjl : j < m.length := by omega
    have hn := ih (by omega)
    refine Yea.step hn 0 fun k _ => ?_
    have hjj : ((j + 1 : Nat) : Int) - 1 = (j : Int) := by omega
    simp only [payofflaw03_FlowSums.l2]
    rw [hjj, if_pos (by omega), if_pos (by omega), if_pos (by omega), if_pos (by simp; omega), prn_rd m j hjl]
    have hw : wrap64 ((j : Int) - 1) = (j : Int) - 1 := by unfold wrap64; omega
    have hr : (m.drop (j + 1)).reverse ++ [(⟨m[j].f0, m[j].f1, m[j].f2⟩ : S32)] = (m.drop j).reverse := by
      rw [List.drop_eq_getElem_cons hjl, List.reverse_cons]
    rw [hw, hr]
theorem FlowSums.pure (l : List S32) (hwf : WF22 l) : ∃ k, payofflaw03_FlowSums.f k l = some true := by
  have hr : reachBytes = 140737488351232 := by decide
  have h32 := hwf.1
  have hS : SmallL (smallL l) := by
    refine ⟨fun x hx => ?_, by unfold smallL; simp; omega, fun x hx => ?_⟩
    · obtain ⟨y, hy, rfl⟩ := List.mem_map.1 hx
      have hy2 := hwf.2 y (List.mem_of_mem_take hy)
      refine ⟨⟨?_, hy2.d0⟩, wf_int (Nat.le_trans (tmod_abs _) (by decide))⟩
      have := hy2.d1
      show y.f1.size ≤ maxLen
      unfold maxLen
      omega
    · obtain ⟨y, hy, rfl⟩ := List.mem_map.1 hx
      exact tmod_abs _
  obtain ⟨ks, hk, hm⟩ := places_exist _ hS.wf
  have h2 := su_l2 _ hS ks hk hm (smallL l).length (Nat.le_refl _)
  rw [List.drop_of_length_le (Nat.le_refl _)] at h2
  have hw : wrap64 (((smallL l).length : Int) - 1) = ((smallL l).length : Int) - 1 := by have := hS.len; unfold wrap64; omega
  obtain ⟨K, hK⟩ := su_l0 _ hS ks hk hm (by rw [hw]; exact h2) ks.length 0 (by omega)
  refine ⟨K + l.length + 100, ?_⟩
  unfold payofflaw03_FlowSums.f
  rw [heads_f _ (by omega), small_f l (by omega) _ (by omega)]
  simp only [Option.bind_some, if_true]
  rw [net_small hS hk]
  simp only [Option.bind_some, if_true]
  exact hK _ (by omega)
theorem FlowSums.walk (A0 : Option Addr) (c0 : Nat) (l0 : List S32) (w : World) (HT : Aside0 (ItoaTab w)) (hr0 : Kd.C k32 w A0 l0.length l0) (hc0 : l0.length ≤ c0) (hwf : WF22 l0) :
    Calls Tryd.prog 6 #[.slice A0 l0.length c0] w fun e w' => e = .returned (.bool true) ∧ Below w.heap.size w w' := by
  obtain ⟨k, hk⟩ := FlowSums.pure l0 hwf
  exact payofflaw03_FlowSums.calls k A0 c0 l0 true w HT hr0 hc0 hk
end Go.Proofs.YtdfndbegifdejaaDoor.GD
