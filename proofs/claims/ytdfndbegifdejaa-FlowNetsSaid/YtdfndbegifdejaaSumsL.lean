/- The reference's sums: the gathering loops, and what the whole comes to (no program in sight). -/
import Derived.Test.YtdfndbegifdejaaSums
namespace Go.Proofs.Ytdfndbegifdejaa.PFlowExact
set_option linter.unusedVariables false
set_option linter.unusedSimpArgs false
open Go.RowKit Go.Proofs.YtdfndbegifdejaaW.PrintWords Go.Sort
open Classical

/-- Where the search for a key stands. -/
def Found (L : List S32) (y : S32) (at_ : Int) (j : Nat) : Prop :=
  (at_ = -1 ∧ ∀ q, q < j → ¬ keyEq (acc L q) y) ∨ ∃ p : Nat, at_ = (p : Int) ∧ p < j ∧ keyEq (acc L p) y

theorem key_scan (x0 : List S32) (b : Bool) (i : Int) (L : List S32) (hL : L.length ≤ 4398046511104) (y : S32) :
    ∀ (d j : Nat) (at_ : Int), L.length - j = d → j ≤ L.length → Found L y at_ j →
      ∃ at', Found L y at' L.length ∧ ∀ k, payoffref03_sums.l1 (k + d) x0 b L i at_ (j : Int) y.f0 y.f1 y.f2 = payoffref03_sums.l1 k x0 b L i at' (L.length : Int) y.f0 y.f1 y.f2 := by
  intro d
  induction d with
  | zero =>
    intro j at_ hd hj hF
    obtain rfl : j = L.length := by omega
    exact ⟨at_, hF, fun k => rfl⟩
  | succ d ih =>
    intro j at_ hd hj hF
    have hjl : j < L.length := by omega
    by_cases hk : keyEq (acc L j) y
    · obtain ⟨at', h1, h2⟩ := ih (j + 1) (j : Int) (by omega) (by omega) (.inr ⟨j, rfl, by omega, hk⟩)
      refine ⟨at', h1, fun k => ?_⟩
      rw [← h2 k, ← Nat.add_assoc]
      have e1 : (rd_T32 L (j : Int)).f0 = y.f0 := hk.1
      have e2 : (rd_T32 L (j : Int)).f1.toList = y.f1.toList := by rw [show (rd_T32 L (j : Int)).f1 = y.f1 from hk.2]
      simp only [payoffref03_sums.l1]
      rw [if_pos (by omega), if_pos (by omega), if_pos e1, if_pos e2, w64 j (by omega)]
    · obtain ⟨at', h1, h2⟩ := ih (j + 1) at_ (by omega) (by omega) (by
        rcases hF with ⟨rfl, h⟩ | ⟨p, rfl, hp, h⟩
        · refine .inl ⟨rfl, fun q hq => ?_⟩
          by_cases e : q = j
          · subst e; exact hk
          · exact h q (by omega)
        · exact .inr ⟨p, rfl, by omega, h⟩)
      refine ⟨at', h1, fun k => ?_⟩
      rw [← h2 k, ← Nat.add_assoc]
      simp only [payoffref03_sums.l1]
      rw [if_pos (by omega), if_pos (by omega)]
      by_cases e1 : (rd_T32 L (j : Int)).f0 = y.f0
      · have e2 : ¬ (rd_T32 L (j : Int)).f1.toList = y.f1.toList := fun h => hk ⟨e1, by
          rw [ByteArray.toList_eq, ByteArray.toList_eq] at h
          exact ByteArray.ext (Array.ext' h)⟩
        rw [if_pos e1, if_neg e2, w64 j (by omega)]
      · rw [if_neg e1, w64 j (by omega)]

theorem enter_key (x0 : List S32) (b : Bool) (L : List S32) (i : Nat) (hi : i < x0.length) (k : Nat) :
    payoffref03_sums.l0 (k + 2) x0 b L (i : Int) = payoffref03_sums.l1 k x0 b L (i : Int) (-1) 0 (nf b (acc x0 i)).f0 (nf b (acc x0 i)).f1 (nf b (acc x0 i)).f2 := by
  simp only [payoffref03_sums.l0]
  rw [if_pos (by omega), if_pos (by omega)]
  by_cases hb : b = true
  · subst hb
    rw [if_pos rfl]
    simp only [payoffref03_sums.j1]
    rfl
  · rw [if_neg hb]
    simp only [payoffref03_sums.j1]
    have : b = false := by simpa using hb
    subst this
    rfl

theorem split_grp (b : Bool) (y : S32) (x0 : List S32) (i : Nat) (hi : i < x0.length) : grpB b y x0 = grpB b y (x0.take i) ++ grpB b y [acc x0 i] ++ grpB b y (x0.drop (i + 1)) := by
  rw [← grpB_app, ← grpB_app, acc_get _ _ hi, ← List.take_succ_eq_append_getElem hi, List.take_append_drop]
theorem gather_loop (x0 : List S32) (b : Bool) (hn : x0.length ≤ 4398046511103) (hwf : ∀ x ∈ x0, I64 x.f2) : ∀ (d i : Nat) (L : List S32), x0.length - i = d → i ≤ x0.length → St b (x0.take i) L →
    ∃ K, (∃ L', St b x0 L' ∧ ∀ k, payoffref03_sums.l0 (k + K) x0 b L (i : Int) = payoffref03_sums.l2 k L' 0) ∨
      ((∃ x ∈ x0, sumF 0 (grpB b (nf b x) x0) = (0, 1)) ∧ ∀ k, payoffref03_sums.l0 (k + K) x0 b L (i : Int) = some ([], false)) := by
  intro d
  induction d with
  | zero =>
    intro i L hd hi hS
    obtain rfl : i = x0.length := by omega
    rw [List.take_length] at hS
    refine ⟨1, .inl ⟨L, hS, fun k => ?_⟩⟩
    simp only [payoffref03_sums.l0]
    rw [if_neg (by omega)]
  | succ d ih =>
    intro i L hd hi hS
    have hil : i < x0.length := by omega
    have hLn : L.length ≤ i := by have := hS.len; simp at this; omega
    have hx : acc x0 i ∈ x0 := by rw [acc_get _ _ hil]; exact List.getElem_mem hil
    have hxw := hwf _ hx
    have htk : x0.take (i + 1) = x0.take i ++ [acc x0 i] := by rw [acc_get _ _ hil]; exact List.take_succ_eq_append_getElem hil
    have w1 := w64 i (by omega)
    obtain ⟨at', hF, hsc⟩ := key_scan x0 b (i : Int) L (by omega) (nf b (acc x0 i)) L.length 0 (-1) (by omega) (by omega) (.inl ⟨rfl, fun q h => by omega⟩)
    have hent : ∀ k, payoffref03_sums.l0 (k + 1 + L.length + 2) x0 b L (i : Int) = payoffref03_sums.l1 (k + 1) x0 b L (i : Int) at' (L.length : Int) (nf b (acc x0 i)).f0 (nf b (acc x0 i)).f1 (nf b (acc x0 i)).f2 := fun k => by
      rw [enter_key x0 b L i hil (k + 1 + L.length)]
      have := hsc (k + 1)
      rw [show ((0 : Nat) : Int) = 0 from rfl] at this
      exact this
    rcases hF with ⟨rfl, hno⟩ | ⟨p, rfl, hp, hk⟩
    · have hst : ∀ k, payoffref03_sums.l0 (k + 1 + L.length + 2) x0 b L (i : Int) = payoffref03_sums.l0 k x0 b (L ++ [nf b (acc x0 i)]) ((i + 1 : Nat) : Int) := fun k => by
        rw [hent]
        simp only [payoffref03_sums.l1]
        rw [if_neg (by omega), if_pos (by omega), if_pos (by omega), w1]
      obtain ⟨K, hK⟩ := ih (i + 1) (L ++ [nf b (acc x0 i)]) (by omega) (by omega) (by rw [htk]; exact hS.push _ hxw hno)
      refine ⟨K + 1 + L.length + 2, ?_⟩
      rcases hK with ⟨L', h1, h2⟩ | ⟨h1, h2⟩
      · exact .inl ⟨L', h1, fun k => by rw [show k + (K + 1 + L.length + 2) = (k + K) + 1 + L.length + 2 by omega, hst, h2]⟩
      · exact .inr ⟨h1, fun k => by rw [show k + (K + 1 + L.length + 2) = (k + K) + 1 + L.length + 2 by omega, hst, h2]⟩
    · have hin := sumF_in _ _ _ (show I64 0 by unfold I64; omega) (hS.sum p hp)
      have hadd := add_f hin hxw
      by_cases hov : ov (acc L p).f2 (acc x0 i).f2 = true
      · rw [if_pos hov] at hadd
        refine ⟨0 + 1 + L.length + 2, .inr ⟨⟨acc x0 i, hx, ?_⟩, fun k => ?_⟩⟩
        · rw [split_grp b _ x0 i hil, grpB_one, if_pos ⟨rfl, rfl⟩, ← grpB_key b hk]
          refine sumF_bad _ _ _ ?_
          rw [sumF_ok _ _ _ _ (hS.sum p hp), sumF_cons, if_pos hov]
        · rw [show k + (0 + 1 + L.length + 2) = k + 1 + L.length + 2 by omega, hent]
          simp only [payoffref03_sums.l1]
          rw [if_neg (by omega), if_neg (by omega), if_pos (by omega), if_pos (by omega)]
          have : payoffref03_add.f (rd_T32 L (p : Int)).f2 (nf b (acc x0 i)).f2 = some (0, false) := hadd
          rw [this]
          simp
      · rw [if_neg hov] at hadd
        have hst : ∀ k, payoffref03_sums.l0 (k + 1 + L.length + 2) x0 b L (i : Int) = payoffref03_sums.l0 k x0 b (L.set p ⟨(acc L p).f0, (acc L p).f1, wrap64 ((acc L p).f2 + (acc x0 i).f2)⟩) ((i + 1 : Nat) : Int) := fun k => by
          rw [hent]
          simp only [payoffref03_sums.l1]
          rw [if_neg (by omega), if_neg (by omega), if_pos (by omega), if_pos (by omega)]
          have : payoffref03_add.f (rd_T32 L (p : Int)).f2 (nf b (acc x0 i)).f2 = some (wrap64 ((acc L p).f2 + (acc x0 i).f2), true) := hadd
          rw [this]
          simp only [Option.bind_some, if_true, Int.toNat_natCast]
          rw [w1]
          rfl
        obtain ⟨K, hK⟩ := ih (i + 1) _ (by omega) (by omega) (by rw [htk]; exact hS.add _ p hp hk hov)
        refine ⟨K + 1 + L.length + 2, ?_⟩
        rcases hK with ⟨L', h1, h2⟩ | ⟨h1, h2⟩
        · exact .inl ⟨L', h1, fun k => by rw [show k + (K + 1 + L.length + 2) = (k + K) + 1 + L.length + 2 by omega, hst, h2]⟩
        · exact .inr ⟨h1, fun k => by rw [show k + (K + 1 + L.length + 2) = (k + K) + 1 + L.length + 2 by omega, hst, h2]⟩

theorem St.same {b : Bool} {l L L' : List S32} (h : St b l L) (hs : Same L L') (hp : Pre L'.length L') : St b l L' := by
  refine ⟨fun p q hpq hq h1 => ?_, fun p hp2 => ?_, fun p hp2 => ?_, fun x hx => ?_, by rw [hs.1]; exact h.len⟩
  · have h2 := hp p q (by omega) hpq hq
    rcases h2 with h2 | ⟨_, h2⟩
    · have := h1.1; omega
    · rw [h1.2, swo_sless.irrefl] at h2; cases h2
  · obtain ⟨q, hq, e⟩ := (hs.2 (acc L' p)).1 ⟨p, hp2, rfl⟩
    rw [← e]; exact h.sum q hq
  · obtain ⟨q, hq, e⟩ := (hs.2 (acc L' p)).1 ⟨p, hp2, rfl⟩
    rw [← e]; exact h.came q hq
  · obtain ⟨q, hq, e⟩ := h.there x hx
    obtain ⟨p, hp2, e2⟩ := (hs.2 (acc L q)).2 ⟨q, hq, rfl⟩
    exact ⟨p, hp2, by rw [e2]; exact e⟩

/-- The reference's sums, whole. -/
theorem sums_f (x0 : List S32) (b : Bool) (hn : x0.length ≤ 4398046511103) (hwf : ∀ x ∈ x0, I64 x.f2) :
    (∃ L, St b x0 L ∧ Pre L.length L ∧ ∃ K, ∀ k, payoffref03_sums.f (k + K) x0 b = some (L, true)) ∨
    ((∃ x ∈ x0, sumF 0 (grpB b (nf b x) x0) = (0, 1)) ∧ ∃ K, ∀ k, payoffref03_sums.f (k + K) x0 b = some ([], false)) := by
  obtain ⟨K, hK⟩ := gather_loop x0 b hn hwf x0.length 0 [] (by omega) (by omega) (by simpa using St.nil b)
  rcases hK with ⟨L, h1, h2⟩ | ⟨h1, h2⟩
  · obtain ⟨K2, L', g1, g2, g3⟩ := exch L.length 0 L (by omega) (by omega) (by have := h1.len; omega) h1.dist (fun p q h => by omega)
    refine .inl ⟨L', h1.same g1 g2, g2, K2 + K, fun k => ?_⟩
    unfold payoffref03_sums.f
    have e1 := h2 (k + K2)
    rw [show ((0 : Nat) : Int) = 0 from rfl] at e1 g3
    rw [← Nat.add_assoc, e1]
    exact g3 k
  · exact .inr ⟨h1, K, fun k => h2 k⟩
end Go.Proofs.Ytdfndbegifdejaa.PFlowExact
