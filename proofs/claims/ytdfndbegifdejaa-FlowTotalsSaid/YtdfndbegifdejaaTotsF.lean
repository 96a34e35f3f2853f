/- The reference's Totals: what is good is its answer (no program in sight). -/
import Derived.Test.YtdfndbegifdejaaSumsL
namespace Go.Proofs.Ytdfndbegifdejaa.PFlowExact
set_option linter.unusedVariables false
set_option linter.unusedSimpArgs false
open Go.RowKit Go.Proofs.YtdfndbegifdejaaW.PrintWords Go.Sort
open Classical

theorem grp_B (c : ByteArray) (l : List S32) : grp curL (slit c) l = grpB false ⟨0, c, 0⟩ l := by
  unfold grp grpB
  congr 1
  apply List.filter_congr
  intro x _
  have : curL x = slit c ↔ keyEq (nf false x) ⟨0, c, 0⟩ := ⟨fun h => ⟨rfl, slit_inj h⟩, fun h => by unfold curL; rw [show x.f1 = c from h.2]⟩
  simp [this]
theorem nfF_key (x : S32) : keyEq (nf false x) ⟨0, x.f1, 0⟩ := ⟨rfl, rfl⟩

theorem sorted_eq {a b : List ByteArray} (ha : a.Nodup) (hb : b.Nodup) (hm : ∀ c, c ∈ a ↔ c ∈ b) (hsa : a.Pairwise (fun x y => sless y x = false)) (hsb : b.Pairwise (fun x y => sless y x = false)) : a = b := by
  refine List.Perm.eq_of_pairwise (le := fun x y => sless y x = false) (fun x y _ _ h1 h2 => sless_ext h2 h1) hsa hsb ?_
  exact (List.perm_ext_iff_of_nodup ha hb).2 hm

theorem tot_loop (L : List S32) (hL : L.length ≤ 4398046511104) : ∀ (d i : Nat) (out : List S62), L.length - i = d → i ≤ L.length → out.length = i →
    ∀ k, payoffref03_Totals.l0 (k + d + 1) L out (i : Int) = some (out ++ (L.drop i).map (fun e => ⟨e.f1, e.f2⟩), 0) := by
  intro d
  induction d with
  | zero =>
    intro i out hd hi ho k
    obtain rfl : i = L.length := by omega
    simp only [payoffref03_Totals.l0, Nat.add_zero]
    rw [if_neg (by omega), List.drop_length]; simp
  | succ d ih =>
    intro i out hd hi ho k
    have hil : i < L.length := by omega
    have := ih (i + 1) (out ++ [⟨(acc L i).f1, (acc L i).f2⟩]) (by omega) (by omega) (by simp [ho]) k
    rw [show k + (d + 1) + 1 = (k + d + 1) + 1 by omega]
    generalize k + d + 1 = m at this ⊢
    simp only [payoffref03_Totals.l0]
    rw [if_pos (by omega), if_pos (by omega), if_pos (by omega), w64 i (by omega)]
    rw [show (⟨(rd_T32 L (i : Int)).f1, (rd_T32 L (i : Int)).f2⟩ : S62) = ⟨(acc L i).f1, (acc L i).f2⟩ from rfl, this]
    rw [List.drop_eq_getElem_cons hil, acc_get _ _ hil, List.map_cons, List.append_assoc]
    rfl

theorem refTotals (l0 : List S32) (hn : l0.length ≤ 4398046511103) (hwf : ∀ x ∈ l0, I64 x.f2) (ts : List S62) (f : Int) (hg : TotGood l0 ts f) : ∃ k, payoffref03_Totals.f k l0 = some (ts, f) := by
  obtain ⟨ks, hk, hg⟩ := hg
  rcases sums_f l0 false hn hwf with ⟨L, hS, hP, K, hK⟩ | ⟨⟨x, hx, hbad⟩, K, hK⟩
  · have hz : ∀ p, p < L.length → (acc L p).f0 = 0 := fun p hp => by
      obtain ⟨x, _, h⟩ := hS.came p hp
      exact h.1.symm
    have hacc : ∀ p, p < L.length → keyEq (acc L p) ⟨0, (acc L p).f1, 0⟩ := fun p hp => ⟨hz p hp, rfl⟩
    have hmem : ∀ c, c ∈ L.map (·.f1) ↔ c ∈ ks := by
      intro c
      rw [hk.mem]
      constructor
      · intro hc
        obtain ⟨e, he, rfl⟩ := List.mem_map.1 hc
        obtain ⟨p, hp, rfl⟩ := List.mem_iff_getElem.1 he
        obtain ⟨x, hx, h⟩ := hS.came p hp
        rw [acc_get _ _ hp] at h
        exact ⟨x, hx, by unfold curL; rw [show x.f1 = L[p].f1 from h.2]⟩
      · rintro ⟨x, hx, h⟩
        obtain ⟨p, hp, h2⟩ := hS.there x hx
        have h3 := slit_inj h
        rw [acc_get _ _ hp] at h2
        exact List.mem_map.2 ⟨L[p], List.getElem_mem hp, by rw [← h3]; exact h2.2.symm⟩
    have hlt : ∀ p q, p < q → q < L.length → sless (acc L p).f1 (acc L q).f1 = true := fun p q hpq hq => by
      rcases hP p q (by omega) hpq hq with h | ⟨_, h⟩
      · rw [hz p (by omega), hz q hq] at h; omega
      · exact h
    have hnd : (L.map (·.f1)).Nodup := by
      unfold List.Nodup
      rw [List.pairwise_map, List.pairwise_iff_getElem]
      intro p q hp hq hpq e
      have := hlt p q hpq hq
      rw [acc_get _ _ hp, acc_get _ _ hq, e, swo_sless.irrefl] at this
      cases this
    have hso : (L.map (·.f1)).Pairwise (fun x y => sless y x = false) := by
      rw [List.pairwise_map, List.pairwise_iff_getElem]
      intro p q hp hq hpq
      have h1 := hlt p q hpq hq
      rw [acc_get _ _ hp, acc_get _ _ hq] at h1
      cases h2 : sless L[q].f1 L[p].f1
      · rfl
      · have := swo_sless.trans _ _ _ h1 h2
        rw [swo_sless.irrefl] at this; cases this
    have hks := sorted_eq hnd hk.nodup hmem hso hk.sorted
    have hsum : ∀ p, p < L.length → sumF 0 (grp curL (slit (acc L p).f1) l0) = ((acc L p).f2, 0) := fun p hp => by
      rw [grp_B, ← grpB_key false (hacc p hp)]; exact hS.sum p hp
    have hts : tots l0 ks = L.map (fun e => ⟨e.f1, e.f2⟩) := by
      unfold tots
      rw [← hks, List.map_map]
      refine List.map_congr_left fun e he => ?_
      obtain ⟨p, hp, rfl⟩ := List.mem_iff_getElem.1 he
      have := hsum p hp
      rw [acc_get _ _ hp] at this
      simp [this]
    rcases hg with ⟨rfl, rfl, _⟩ | ⟨_, _, k, hkk, hb⟩
    · refine ⟨0 + L.length + 1 + K, ?_⟩
      unfold payoffref03_Totals.f
      rw [hK]
      simp only [Option.bind_some, if_true]
      have h1 := tot_loop L (by have := hS.len; omega) L.length 0 [] (by omega) (by omega) rfl K
      rw [show ((0 : Nat) : Int) = 0 from rfl] at h1
      rw [show 0 + L.length + 1 + K = K + L.length + 1 by omega, h1, hts]
      simp
    · exfalso
      rw [← hks] at hkk
      obtain ⟨e, he, rfl⟩ := List.mem_map.1 hkk
      obtain ⟨p, hp, rfl⟩ := List.mem_iff_getElem.1 he
      have := hsum p hp
      rw [acc_get _ _ hp] at this
      rw [this] at hb
      cases hb
  · rcases hg with ⟨rfl, _, hok⟩ | ⟨rfl, rfl, _⟩
    · exfalso
      have h1 := hok x.f1 ((hk.mem _).2 ⟨x, hx, rfl⟩)
      rw [grp_B, ← grpB_key false (nfF_key x), hbad] at h1
      cases h1
    · refine ⟨0 + K, ?_⟩
      unfold payoffref03_Totals.f
      rw [hK]
      simp
end Go.Proofs.Ytdfndbegifdejaa.PFlowExact
