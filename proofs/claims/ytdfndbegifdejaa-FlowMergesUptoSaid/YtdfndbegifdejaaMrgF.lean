/- The reference's Merge: what its printed function comes to (no program in sight). -/
import Derived.Test.YtdfndbegifdejaaRefMrg
import Derived.Test.YtdfndbegifdejaaMrgW
namespace Go.Proofs.Ytdfndbegifdejaa.PFlowExact
set_option linter.unusedVariables false
set_option linter.unusedSimpArgs false
open Go.RowKit Go.Proofs.YtdfndbegifdejaaW.PrintWords Go.Proofs.YtdfndbegifdejaaMine Go.Proofs.YtdfndbegifdejaaStab

theorem wrap_small (i : Int) (h : -1000000000 ≤ i) (h2 : i ≤ 1000000000) : wrap64 i = i := by unfold wrap64; omega

def ofN (l : List Nat) : List Int := l.map (fun n : Nat => (n : Int))
theorem rd_ofN (l : List Nat) (i : Nat) (h : i < l.length) : rd (ofN l) (i : Int) = (l[i] : Int) := by
  simp [rd, ofN, h]
theorem set_ofN (l : List Nat) (i : Nat) (v : Nat) : (ofN l).set i (v : Int) = ofN (l.set i v) := by
  simp [ofN, List.map_set]
@[simp] theorem len_ofN (l : List Nat) : (ofN l).length = l.length := by simp [ofN]

/-- What is left of each list. -/
def rems (l0 : List (List S32)) (ats : List Nat) : List (List S32) := List.zipWith (fun l n => l.drop n) l0 ats

section
variable (l0 : List (List S32)) (ats : List Nat) (hlen : ats.length = l0.length) (hsm : l0.length ≤ 1048576) (hin : ∀ l ∈ l0, l.length ≤ 1048576)
include hlen hsm

def hd (j : Nat) : Int := (rd_T32 (rd_L4 l0 (j : Int)) ((ats.getD j 0 : Nat) : Int)).f0
def more (j : Nat) : Prop := ats.getD j 0 < (rd_L4 l0 (j : Int)).length
/-- The least head among the first i lists, of the first that has it. -/
def Best (best : Int) (i : Nat) : Prop :=
  (best = -1 ∧ ∀ j, j < i → ¬ more l0 ats j) ∨
  (∃ b : Nat, best = (b : Int) ∧ b < i ∧ more l0 ats b ∧ (∀ j, j < i → more l0 ats j → hd l0 ats b ≤ hd l0 ats j) ∧ ∀ j, j < b → more l0 ats j → hd l0 ats b < hd l0 ats j)

theorem scan (out : List S32) : ∀ (d i : Nat) (best : Int), l0.length - i = d → i ≤ l0.length → Best l0 ats best i →
    ∃ best', Best l0 ats best' l0.length ∧ ∀ k, payoffref03_Merge.l3 (k + d) l0 (ofN ats) out best (i : Int) = payoffref03_Merge.l3 k l0 (ofN ats) out best' (l0.length : Int) := by
  intro d
  induction d with
  | zero =>
    intro i best hd hi hB
    obtain rfl : i = l0.length := by omega
    exact ⟨best, hB, fun k => rfl⟩
  | succ d ih =>
    intro i best hd0 hi hB
    have hlt : i < l0.length := by omega
    have hlz : (i : Int) < (l0.length : Int) := by omega
    have hia : i < ats.length := by omega
    have e1 : rd (ofN ats) (i : Int) = ((ats.getD i 0 : Nat) : Int) := by rw [rd_ofN _ _ hia]; simp [hia]
    have w1 : wrap64 ((i : Int) + 1) = ((i + 1 : Nat) : Int) := by rw [wrap_small _ (by omega) (by omega)]; omega
    have step : ∀ best', (∀ k, payoffref03_Merge.l3 (k + 1) l0 (ofN ats) out best (i : Int) = payoffref03_Merge.l3 k l0 (ofN ats) out best' ((i + 1 : Nat) : Int)) → Best l0 ats best' (i + 1) →
        ∃ best', Best l0 ats best' l0.length ∧ ∀ k, payoffref03_Merge.l3 (k + (d + 1)) l0 (ofN ats) out best (i : Int) = payoffref03_Merge.l3 k l0 (ofN ats) out best' (l0.length : Int) := by
      intro best' h1 h2
      obtain ⟨b2, h3, h4⟩ := ih (i + 1) best' (by omega) (by omega) h2
      exact ⟨b2, h3, fun k => by rw [← Nat.add_assoc, h1, h4]⟩
    by_cases hm : more l0 ats i
    · have hm' := hm
      unfold more at hm'
      rcases hB with ⟨rfl, hn⟩ | ⟨b, rfl, hb, hbm, hle, hst⟩
      · refine step (i : Int) (fun k => ?_) (.inr ⟨i, rfl, by omega, hm, fun j hj hjm => ?_, fun j hj hjm => absurd hjm (hn j hj)⟩)
        · simp only [payoffref03_Merge.l3]
          rw [if_pos hlz, if_pos (by omega), if_pos (by simp; omega), e1, if_pos (by omega), if_pos (by omega), w1]
        · by_cases c : j = i
          · subst c; exact Int.le_refl _
          · exact absurd hjm (hn j (by omega))
      · have hba : b < ats.length := by omega
        have e2 : rd (ofN ats) (b : Int) = ((ats.getD b 0 : Nat) : Int) := by rw [rd_ofN _ _ hba]; simp [hba]
        have hbm' := hbm
        unfold more at hbm'
        by_cases hc : hd l0 ats i < hd l0 ats b
        · refine step (i : Int) (fun k => ?_) (.inr ⟨i, rfl, by omega, hm, fun j hj hjm => ?_, fun j hj hjm => ?_⟩)
          · unfold hd at hc
            simp only [payoffref03_Merge.l3]
            rw [if_pos hlz, if_pos (by omega), if_pos (by simp; omega), e1, e2, if_pos (by omega), if_neg (by omega), if_pos (by omega), if_pos (by omega), if_pos (by omega), if_pos (by simp; omega), if_pos (by omega), if_pos (by omega), if_pos hc, w1]
          · by_cases c : j = i
            · subst c; exact Int.le_refl _
            · have := hle j (by omega) hjm; omega
          · have := hle j hj hjm; omega
        · refine step (b : Int) (fun k => ?_) (.inr ⟨b, rfl, by omega, hbm, fun j hj hjm => ?_, hst⟩)
          · unfold hd at hc
            simp only [payoffref03_Merge.l3]
            rw [if_pos hlz, if_pos (by omega), if_pos (by simp; omega), e1, e2, if_pos (by omega), if_neg (by omega), if_pos (by omega), if_pos (by omega), if_pos (by omega), if_pos (by simp; omega), if_pos (by omega), if_pos (by omega), if_neg hc, w1]
          · by_cases c : j = i
            · subst c; omega
            · exact hle j (by omega) hjm
    · have hm' := hm
      unfold more at hm'
      refine step best (fun k => ?_) ?_
      · simp only [payoffref03_Merge.l3]
        rw [if_pos hlz, if_pos (by omega), if_pos (by simp; omega), e1, if_neg (by omega), w1]
      · rcases hB with ⟨rfl, hn⟩ | ⟨b, rfl, hb, hbm, hle, hst⟩
        · refine .inl ⟨rfl, fun j hj => ?_⟩
          by_cases c : j = i
          · subst c; exact hm
          · exact hn j (by omega)
        · refine .inr ⟨b, rfl, by omega, hbm, fun j hj hjm => ?_, hst⟩
          by_cases c : j = i
          · subst c; exact absurd hjm hm
          · exact hle j (by omega) hjm
end

theorem rems_get (l0 : List (List S32)) (ats : List Nat) (hlen : ats.length = l0.length) (j : Nat) (h : j < l0.length) : (rems l0 ats)[j]? = some ((rd_L4 l0 (j : Int)).drop (ats.getD j 0)) := by
  unfold rems
  rw [List.getElem?_zipWith, List.getElem?_eq_getElem h, List.getElem?_eq_getElem (by omega)]
  simp [rdL4 _ _ h, hlen, h]
theorem rems_len (l0 : List (List S32)) (ats : List Nat) (hlen : ats.length = l0.length) : (rems l0 ats).length = l0.length := by simp [rems, hlen]
theorem rems_set (l0 : List (List S32)) (ats : List Nat) (hlen : ats.length = l0.length) (b v : Nat) (h : b < l0.length) : rems l0 (ats.set b v) = (rems l0 ats).set b ((rd_L4 l0 (b : Int)).drop v) := by
  apply List.ext_getElem?
  intro j
  by_cases hj : j < l0.length
  · rw [rems_get _ _ (by simp [hlen]) _ hj, List.getElem?_set]
    by_cases e : b = j
    · subst e
      rw [if_pos rfl, if_pos (by rw [rems_len _ _ hlen]; exact h)]
      simp [hlen, h]
    · rw [if_neg e, rems_get _ _ hlen _ hj]
      simp [List.getElem?_set, e]
  · rw [List.getElem?_eq_none_iff.2 (by rw [rems_len _ _ (by simp [hlen])]; omega), List.getElem?_eq_none_iff.2 (by rw [List.length_set, rems_len _ _ hlen]; omega)]

theorem drop_le (l : List S32) (hs : KSorted day l) (n : Nat) (y : S32) (hy : y ∈ l.drop n) : n < l.length ∧ (rd_T32 l (n : Int)).f0 ≤ day y := by
  obtain ⟨c, hc, rfl⟩ := List.mem_iff_getElem.1 hy
  simp at hc
  have hn : n < l.length := by omega
  refine ⟨hn, ?_⟩
  rw [rd32 _ _ hn, List.getElem_drop]
  unfold KSorted at hs
  rw [List.pairwise_iff_getElem] at hs
  by_cases c0 : c = 0
  · subst c0; exact Int.le_refl _
  · exact hs n (n + c) hn (by omega) (by omega)

theorem merge_from (l0 : List (List S32)) (hsm : l0.length ≤ 1048576) (hin : ∀ l ∈ l0, l.length ≤ 1048576) (hso : ∀ l ∈ l0, KSorted day l) :
    ∀ (T : Nat) (ats : List Nat) (out : List S32), ats.length = l0.length → (rems l0 ats).flatten.length = T → out.length + T < 4398046511104 →
      ∃ K m, Mrg day (rems l0 ats) m ∧ ∀ k, payoffref03_Merge.l2 (k + K) l0 (ofN ats) out = some (out ++ m, 0) := by
  intro T
  induction T with
  | zero =>
    intro ats out hlen hT ho
    obtain ⟨best, hB, hsc⟩ := scan l0 ats hlen hsm out l0.length 0 (-1) (by omega) (by omega) (.inl ⟨rfl, fun j h => by omega⟩)
    have hnil : ∀ r ∈ rems l0 ats, r = [] := List.flatten_eq_nil_iff.1 (List.eq_nil_of_length_eq_zero hT)
    have hno : ∀ j, j < l0.length → ¬ more l0 ats j := by
      intro j hj hm
      have h1 := List.mem_of_getElem? (rems_get l0 ats hlen j hj)
      have h2 := congrArg List.length (hnil _ h1)
      unfold more at hm
      simp only [List.length_drop, List.length_nil] at h2
      omega
    rcases hB with ⟨rfl, _⟩ | ⟨b, rfl, hb, hbm, _⟩
    · refine ⟨l0.length + 2, [], Mrg.done _ hnil, fun k => ?_⟩
      rw [show k + (l0.length + 2) = (k + 1 + l0.length) + 1 by omega]
      simp only [payoffref03_Merge.l2]
      have := hsc (k + 1)
      rw [show ((0 : Nat) : Int) = 0 from rfl] at this
      rw [this]
      simp only [payoffref03_Merge.l3]
      rw [if_neg (by omega), if_pos (by omega), List.append_nil]
    · exact absurd hbm (hno b hb)
  | succ T ih =>
    intro ats out hlen hT ho
    obtain ⟨best, hB, hsc⟩ := scan l0 ats hlen hsm out l0.length 0 (-1) (by omega) (by omega) (.inl ⟨rfl, fun j h => by omega⟩)
    rcases hB with ⟨rfl, hno⟩ | ⟨b, rfl, hb, hbm, hle, hst⟩
    · exfalso
      have hnil : (rems l0 ats).flatten = [] := by
        rw [List.flatten_eq_nil_iff]
        intro r hr
        obtain ⟨j, hj, hjr⟩ := List.mem_iff_getElem?.1 hr |>.imp fun j h => (show ∃ _ : j < l0.length, (rems l0 ats)[j]? = some r from ⟨by have := (List.getElem?_eq_some_iff.1 h).1; rwa [rems_len _ _ hlen] at this, h⟩)
        rw [rems_get l0 ats hlen j hj] at hjr
        cases hjr
        have := hno j hj
        unfold more at this
        exact List.drop_eq_nil_of_le (by omega)
      rw [hnil] at hT
      simp at hT
    · have hbm' := hbm
      unfold more at hbm'
      have hba : b < ats.length := by omega
      have hbl : (rd_L4 l0 (b : Int)) ∈ l0 := rdL4_mem l0 b hb
      have hlb := hin _ hbl
      obtain ⟨a, ha⟩ : ∃ a, a = ats.getD b 0 := ⟨_, rfl⟩
      rw [← ha] at hbm'
      have hx : (rems l0 ats)[b]? = some (rd_T32 (rd_L4 l0 (b : Int)) (a : Int) :: (rd_L4 l0 (b : Int)).drop (a + 1)) := by
        rw [rems_get l0 ats hlen b hb, ← ha, rd32 _ _ hbm', List.drop_eq_getElem_cons hbm']
      have hmem : ∀ y, ∀ j, j < l0.length → y ∈ (rd_L4 l0 (j : Int)).drop (ats.getD j 0) → more l0 ats j ∧ hd l0 ats j ≤ day y := fun y j hj hy =>
        drop_le _ (hso _ (rdL4_mem l0 j hj)) _ y hy
      have hset := rems_set l0 ats hlen b (a + 1) hb
      obtain ⟨A, B, s1, s2, s3⟩ := set_flatten_split (rems l0 ats) b _ _ hx
      have hT' : (rems l0 (ats.set b (a + 1))).flatten.length = T := by
        rw [hset, s2]
        rw [s1] at hT
        simp only [List.length_append, List.length_cons] at hT ⊢
        omega
      obtain ⟨K, m, hM, hk⟩ := ih (ats.set b (a + 1)) (out ++ [rd_T32 (rd_L4 l0 (b : Int)) (a : Int)]) (by simp [hlen]) hT' (by simp; omega)
      have hkey : day (rd_T32 (rd_L4 l0 (b : Int)) (a : Int)) = hd l0 ats b := by unfold day hd; rw [← ha]
      refine ⟨K + (l0.length + 2), rd_T32 (rd_L4 l0 (b : Int)) (a : Int) :: m, Mrg.pick _ b _ _ hx ?_ ?_ m (hset ▸ hM), fun k => ?_⟩
      · intro y hy
        obtain ⟨r, hr, hyr⟩ := List.mem_flatten.1 hy
        obtain ⟨j, hjr⟩ := List.mem_iff_getElem?.1 hr
        rw [List.getElem?_take] at hjr
        split at hjr
        · rename_i hjb
          rw [rems_get l0 ats hlen j (by omega)] at hjr
          cases hjr
          obtain ⟨h1, h2⟩ := hmem y j (by omega) hyr
          have := hst j hjb h1
          omega
        · cases hjr
      · intro y hy
        obtain ⟨r, hr, hyr⟩ := List.mem_flatten.1 hy
        obtain ⟨j, hjr⟩ := List.mem_iff_getElem?.1 hr
        have hj : j < l0.length := by have := (List.getElem?_eq_some_iff.1 hjr).1; rwa [rems_len _ _ hlen] at this
        rw [rems_get l0 ats hlen j hj] at hjr
        cases hjr
        obtain ⟨h1, h2⟩ := hmem y j hj hyr
        have := hle j hj h1
        omega
      · rw [show k + (K + (l0.length + 2)) = (k + K + 1 + l0.length) + 1 by omega]
        simp only [payoffref03_Merge.l2]
        have := hsc (k + K + 1)
        rw [show ((0 : Nat) : Int) = 0 from rfl] at this
        rw [this]
        have e2 : rd (ofN ats) (b : Int) = (a : Int) := by rw [rd_ofN _ _ hba, ha]; simp [hba]
        simp only [payoffref03_Merge.l3]
        rw [if_neg (by omega), if_neg (by omega), if_pos (by omega), if_pos (by omega), if_pos (by simp; omega), e2, if_pos (by omega), if_pos (by omega), if_pos (by omega)]
        rw [wrap_small _ (by omega) (by omega), Int.toNat_natCast, show (a : Int) + 1 = ((a + 1 : Nat) : Int) by omega, set_ofN]
        rw [hk k]
        simp

theorem chk1 (l0 : List (List S32)) (x4 : List Int) (hsm : l0.length ≤ 1048576) (i : Nat) (hi : i < l0.length) (hl : (rd_L4 l0 (i : Int)).length ≤ 1048576) :
    ∀ (d j : Nat), (rd_L4 l0 (i : Int)).length + 1 - j = d → 1 ≤ j → j ≤ (rd_L4 l0 (i : Int)).length + 1 → UpTo (rd_L4 l0 (i : Int)) j →
      (KSorted day (rd_L4 l0 (i : Int)) ∧ ∃ K, ∀ k, payoffref03_Merge.l1 (k + K) l0 x4 (i : Int) (j : Int) = payoffref03_Merge.l0 k l0 x4 ((i + 1 : Nat) : Int)) ∨
      (¬ KSorted day (rd_L4 l0 (i : Int)) ∧ ∃ K, ∀ k, payoffref03_Merge.l1 (k + K) l0 x4 (i : Int) (j : Int) = some ([], 1)) := by
  intro d
  have w1 : wrap64 ((i : Int) + 1) = ((i + 1 : Nat) : Int) := by rw [wrap_small _ (by omega) (by omega)]; omega
  induction d with
  | zero =>
    intro j hd h1 h2 hU
    refine .inl ⟨upTo_sorted _ fun q hq => hU q (by omega), 1, fun k => ?_⟩
    simp only [payoffref03_Merge.l1]
    rw [if_pos (by omega), if_pos (by omega), if_neg (by omega), w1]
  | succ d ih =>
    intro j hd h1 h2 hU
    by_cases hj : j < (rd_L4 l0 (i : Int)).length
    · obtain ⟨q, rfl⟩ : ∃ q, j = q + 1 := ⟨j - 1, by omega⟩
      have w2 : wrap64 (((q + 1 : Nat) : Int) - 1) = (q : Int) := by rw [wrap_small _ (by omega) (by omega)]; omega
      have w3 : wrap64 (((q + 1 : Nat) : Int) + 1) = ((q + 1 + 1 : Nat) : Int) := by rw [wrap_small _ (by omega) (by omega)]; omega
      by_cases hc : (rd_T32 (rd_L4 l0 (i : Int)) ((q + 1 : Nat) : Int)).f0 < (rd_T32 (rd_L4 l0 (i : Int)) (q : Int)).f0
      · refine .inr ⟨not_sorted _ q hj hc, 1, fun k => ?_⟩
        simp only [payoffref03_Merge.l1]
        rw [if_pos (by omega), if_pos (by omega), if_pos (by omega), if_pos (by omega), w2, if_pos (by omega), if_pos (by omega), if_pos hc]
      · have hst : ∀ k, payoffref03_Merge.l1 (k + 1) l0 x4 (i : Int) ((q + 1 : Nat) : Int) = payoffref03_Merge.l1 k l0 x4 (i : Int) ((q + 1 + 1 : Nat) : Int) := fun k => by
          simp only [payoffref03_Merge.l1]
          rw [if_pos (by omega), if_pos (by omega), if_pos (by omega), if_pos (by omega), w2, if_pos (by omega), if_pos (by omega), if_neg hc, w3]
        have hU2 : UpTo (rd_L4 l0 (i : Int)) (q + 1 + 1) := fun p hp => by
          by_cases e : p + 1 < q + 1
          · exact hU p e
          · obtain rfl : p = q := by omega
            omega
        rcases ih (q + 1 + 1) (by omega) (by omega) (by omega) hU2 with ⟨h3, K, hK⟩ | ⟨h3, K, hK⟩
        · exact .inl ⟨h3, K + 1, fun k => by rw [← Nat.add_assoc, hst, hK]⟩
        · exact .inr ⟨h3, K + 1, fun k => by rw [← Nat.add_assoc, hst, hK]⟩
    · refine .inl ⟨upTo_sorted _ fun q hq => hU q (by omega), 1, fun k => ?_⟩
      simp only [payoffref03_Merge.l1]
      rw [if_pos (by omega), if_pos (by omega), if_neg (by omega), w1]

theorem chk0 (l0 : List (List S32)) (x4 : List Int) (hsm : l0.length ≤ 1048576) (hin : ∀ l ∈ l0, l.length ≤ 1048576) :
    ∀ (d i : Nat), l0.length - i = d → i ≤ l0.length →
      ((∀ l ∈ l0.drop i, KSorted day l) ∧ ∃ K, ∀ k, payoffref03_Merge.l0 (k + K) l0 x4 (i : Int) = payoffref03_Merge.l2 k l0 x4 []) ∨
      ((∃ l ∈ l0.drop i, ¬ KSorted day l) ∧ ∃ K, ∀ k, payoffref03_Merge.l0 (k + K) l0 x4 (i : Int) = some ([], 1)) := by
  intro d
  induction d with
  | zero =>
    intro i hd hi
    obtain rfl : i = l0.length := by omega
    refine .inl ⟨by simp, 1, fun k => ?_⟩
    simp only [payoffref03_Merge.l0]
    rw [if_neg (by omega)]
  | succ d ih =>
    intro i hd hi
    have hlt : i < l0.length := by omega
    have hm := rdL4_mem l0 i hlt
    have hst : ∀ k, payoffref03_Merge.l0 (k + 1) l0 x4 (i : Int) = payoffref03_Merge.l1 k l0 x4 (i : Int) ((1 : Nat) : Int) := fun k => by
      simp only [payoffref03_Merge.l0]
      rw [if_pos (by omega)]
      rfl
    have hdrop : l0.drop i = rd_L4 l0 (i : Int) :: l0.drop (i + 1) := by rw [rdL4 _ _ hlt]; exact List.drop_eq_getElem_cons hlt
    rw [hdrop]
    rcases chk1 l0 x4 hsm i hlt (hin _ hm) _ 1 rfl (Nat.le_refl _) (by omega) (fun p hp => by omega) with ⟨h1, K, hK⟩ | ⟨h1, K, hK⟩
    · rcases ih (i + 1) (by omega) (by omega) with ⟨h2, K2, hK2⟩ | ⟨h2, K2, hK2⟩
      · refine .inl ⟨fun l hl => ?_, K2 + K + 1, fun k => by rw [← Nat.add_assoc, hst, ← Nat.add_assoc, hK, hK2]⟩
        rcases List.mem_cons.1 hl with rfl | hl
        · exact h1
        · exact h2 l hl
      · obtain ⟨l, hl, hn⟩ := h2
        exact .inr ⟨⟨l, List.mem_cons_of_mem _ hl, hn⟩, K2 + K + 1, fun k => by rw [← Nat.add_assoc, hst, ← Nat.add_assoc, hK, hK2]⟩
    · exact .inr ⟨⟨_, List.mem_cons_self, h1⟩, K + 1, fun k => by rw [← Nat.add_assoc, hst, hK]⟩

theorem rems_zero (l0 : List (List S32)) : rems l0 (List.replicate l0.length 0) = l0 := by
  apply List.ext_getElem?
  intro j
  by_cases hj : j < l0.length
  · rw [rems_get _ _ (by simp) _ hj, rdL4 _ _ hj]
    simp [hj]
  · rw [List.getElem?_eq_none_iff.2 (by rw [rems_len _ _ (by simp)]; omega), List.getElem?_eq_none_iff.2 (by omega)]

/-- The reference's Merge answers as flow.Merge: whatever is good is its answer. -/
theorem refMerge (l0 : List (List S32)) (hsm : l0.length ≤ 1048576) (hfl : l0.flatten.length ≤ 1048576) (m : List S32) (r2 : Int) (hg : Good l0 m r2) :
    ∃ k, payoffref03_Merge.f k l0 = some (m, r2) := by
  have hin : ∀ l ∈ l0, l.length ≤ 1048576 := fun l hl => by
    obtain ⟨i, hi, rfl⟩ := List.mem_iff_getElem.1 hl
    have := flat_le l0 i hi
    rw [rdL4 _ _ hi] at this
    omega
  have hz : (List.replicate l0.length (0 : Int)) = ofN (List.replicate l0.length 0) := by simp [ofN]
  have hf : ∀ k, payoffref03_Merge.f k l0 = payoffref03_Merge.l0 k l0 (ofN (List.replicate l0.length 0)) ((0 : Nat) : Int) := fun k => by
    unfold payoffref03_Merge.f
    rw [if_pos (by omega), if_pos (by omega), Int.toNat_natCast, hz]
    rfl
  rcases chk0 l0 (ofN (List.replicate l0.length 0)) hsm hin _ 0 rfl (Nat.zero_le _) with ⟨h1, K, hK⟩ | ⟨h1, K, hK⟩
  · rw [List.drop_zero] at h1
    obtain ⟨K2, m', hM, hK2⟩ := merge_from l0 hsm hin h1 l0.flatten.length (List.replicate l0.length 0) [] (by simp) (by rw [rems_zero]) (by simp only [List.length_nil]; omega)
    rw [rems_zero] at hM
    rcases hg with ⟨_, rfl, hs, hc⟩ | ⟨⟨l, hl, hn⟩, _⟩
    · have := Mrg.unique day hM hs hc
      subst this
      exact ⟨0 + K2 + K, by rw [hf, hK, hK2]; rfl⟩
    · exact absurd (h1 l hl) hn
  · rw [List.drop_zero] at h1
    rcases hg with ⟨ha, _⟩ | ⟨_, rfl, rfl⟩
    · obtain ⟨l, hl, hn⟩ := h1
      exact absurd (ha l hl) hn
    · exact ⟨0 + K, by rw [hf, hK]⟩
end Go.Proofs.Ytdfndbegifdejaa.PFlowExact
