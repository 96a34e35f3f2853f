/- FlowNets: the reference's Net as a plain law, and the walk through the law. -/
import Derived.Test.YtdfndbegifdejaaHelp
import Derived.Test.YtdfndbegifdejaaRoomy
import Derived.Test.YtdfndbegifdejaaHold
import Derived.Test.YtdfndbegifdejaaSumsL
import Derived.Test.YtdfndbegifdejaaGatP
namespace Go.Proofs.Ytdfndbegifdejaa.PFlowExact
set_option linter.unusedVariables false
set_option linter.unusedSimpArgs false
open Go.RowKit Go.Proofs.YtdfndbegifdejaaW.PrintWords Go.Sort
open Classical

def plOf (e : S32) : Pl := ⟨e.f0, e.f1⟩
theorem nfT (x : S32) : nf true x = x := by unfold nf; simp
theorem grp_P (k : Pl) (hk : PlOk k) (l : List S32) (hl : ∀ x ∈ l, PlOk (plOf x)) : grp placeL (plit k) l = grpB true ⟨k.d, k.c, 0⟩ l := by
  unfold grp grpB
  congr 1
  apply List.filter_congr
  intro x hx
  have : placeL x = plit k ↔ keyEq (nf true x) ⟨k.d, k.c, 0⟩ := by
    rw [nfT]
    constructor
    · intro h
      have := plit_inj (hl x hx) hk h
      subst this
      exact ⟨rfl, rfl⟩
    · rintro ⟨h1, h2⟩
      unfold placeL
      rw [show x.f0 = k.d from h1, show x.f1 = k.c from h2]
  simp [this]
theorem sortedP_eq {a b : List Pl} (ha : a.Nodup) (hb : b.Nodup) (hm : ∀ c, c ∈ a ↔ c ∈ b) (hsa : a.Pairwise (fun x y => pless y x = false)) (hsb : b.Pairwise (fun x y => pless y x = false)) : a = b := by
  refine List.Perm.eq_of_pairwise (le := fun x y => pless y x = false) (fun x y _ _ h1 h2 => pless_ext h2 h1) hsa hsb ?_
  exact (List.perm_ext_iff_of_nodup ha hb).2 hm

theorem refNets (l0 : List S32) (hn : l0.length ≤ 4398046511103) (hwf : ∀ x ∈ l0, I64 x.f2) (hok0 : ∀ x ∈ l0, PlOk (plOf x)) (ts : List S32) (f : Int) (hg : NetGood l0 ts f) : ∃ k, payoffref03_Net.f k l0 = some (ts, f) := by
  obtain ⟨ks, hk, hg⟩ := hg
  rcases sums_f l0 true hn hwf with ⟨L, hS, hP, K, hK⟩ | ⟨⟨x, hx, hbad⟩, K, hK⟩
  · have hokL : ∀ p, p < L.length → PlOk (plOf (acc L p)) := fun p hp => by
      obtain ⟨x, hx, h⟩ := hS.came p hp
      rw [nfT] at h
      have := hok0 x hx
      unfold plOf at this ⊢
      rw [← show x.f0 = (acc L p).f0 from h.1, ← show x.f1 = (acc L p).f1 from h.2]
      exact this
    have hmem : ∀ c, c ∈ L.map plOf ↔ c ∈ ks := by
      intro c
      constructor
      · intro hc
        obtain ⟨e, he, rfl⟩ := List.mem_map.1 hc
        obtain ⟨p, hp, rfl⟩ := List.mem_iff_getElem.1 he
        have hok := hokL p hp
        rw [acc_get _ _ hp] at hok
        rw [hk.mem _ hok]
        obtain ⟨x, hx, h⟩ := hS.came p hp
        rw [nfT, acc_get _ _ hp] at h
        refine ⟨x, hx, ?_⟩
        unfold placeL plOf
        rw [show x.f0 = L[p].f0 from h.1, show x.f1 = L[p].f1 from h.2]
      · intro hc
        have hok := hk.ok c hc
        obtain ⟨x, hx, h⟩ := (hk.mem c hok).1 hc
        obtain ⟨p, hp, h2⟩ := hS.there x hx
        have h3 := plit_inj (hok0 x hx) hok h
        rw [nfT, acc_get _ _ hp] at h2
        refine List.mem_map.2 ⟨L[p], List.getElem_mem hp, ?_⟩
        rw [← h3]
        unfold plOf
        rw [show L[p].f0 = x.f0 from h2.1.symm, show L[p].f1 = x.f1 from h2.2.symm]
    have hlt : ∀ p q, p < q → q < L.length → pless (plOf (acc L p)) (plOf (acc L q)) = true := fun p q hpq hq => by
      unfold pless plOf
      rcases hP p q (by omega) hpq hq with h | ⟨h, h2⟩
      · simp [h]
      · simp [h, h2]
    have hnd : (L.map plOf).Nodup := by
      unfold List.Nodup
      rw [List.pairwise_map, List.pairwise_iff_getElem]
      intro p q hp hq hpq e
      have := hlt p q hpq hq
      rw [acc_get _ _ hp, acc_get _ _ hq, e, swo_pless.irrefl] at this
      cases this
    have hso : (L.map plOf).Pairwise (fun x y => pless y x = false) := by
      rw [List.pairwise_map, List.pairwise_iff_getElem]
      intro p q hp hq hpq
      have h1 := hlt p q hpq hq
      rw [acc_get _ _ hp, acc_get _ _ hq] at h1
      cases h2 : pless (plOf L[q]) (plOf L[p])
      · rfl
      · have := swo_pless.trans _ _ _ h1 h2
        rw [swo_pless.irrefl] at this; cases this
    have hks := sortedP_eq hnd hk.nodup hmem hso hk.sorted
    have hsum : ∀ p, p < L.length → sumF 0 (grp placeL (plit (plOf (acc L p))) l0) = ((acc L p).f2, 0) := fun p hp => by
      rw [grp_P _ (hokL p hp) l0 hok0, ← grpB_key true (show keyEq (acc L p) ⟨(plOf (acc L p)).d, (plOf (acc L p)).c, 0⟩ from ⟨rfl, rfl⟩)]
      exact hS.sum p hp
    have hts : nets l0 ks = L := by
      unfold nets
      rw [← hks, List.map_map]
      conv => rhs; rw [← List.map_id L]
      refine List.map_congr_left fun e he => ?_
      obtain ⟨p, hp, rfl⟩ := List.mem_iff_getElem.1 he
      have := hsum p hp
      rw [acc_get _ _ hp] at this
      simp [this]
      rfl
    rcases hg with ⟨rfl, rfl, _⟩ | ⟨_, _, k, hkk, hb⟩
    · refine ⟨0 + K, ?_⟩
      unfold payoffref03_Net.f
      rw [hK, hts]
      simp
    · exfalso
      rw [← hks] at hkk
      obtain ⟨e, he, rfl⟩ := List.mem_map.1 hkk
      obtain ⟨p, hp, rfl⟩ := List.mem_iff_getElem.1 he
      have := hsum p hp
      rw [acc_get _ _ hp] at this
      rw [this] at hb
      cases hb
  · rcases hg with ⟨rfl, _, hok⟩ | ⟨rfl, rfl, _⟩
    · exfalso
      have ho := hok0 x hx
      have h1 := hok (plOf x) ((hk.mem _ ho).2 ⟨x, hx, rfl⟩)
      rw [grp_P _ ho l0 hok0, ← grpB_key true (show keyEq (nf true x) ⟨(plOf x).d, (plOf x).c, 0⟩ by rw [nfT]; exact ⟨rfl, rfl⟩), hbad] at h1
      cases h1
    · refine ⟨0 + K, ?_⟩
      unfold payoffref03_Net.f
      rw [hK]
      simp
end Go.Proofs.Ytdfndbegifdejaa.PFlowExact
namespace Go.Proofs.Ytdfndbegifdejaa.PFlowExact
set_option linter.unusedVariables false
set_option linter.unusedSimpArgs false
open Go.RowKit Go.Proofs.YtdfndbegifdejaaW.PrintWords Go.Proofs.YtdfndbegifdejaaW.PrintLast Go.Proofs.YtdfndbegifdejaaW.PrintMore Go.Proofs.YtdfndbegifdejaaMine
attribute [local go_sem] max2_int min2_int max_two min_two max_three min_three max_four min_four

theorem wf_I64n {a : Int} (h : (Lit.int .i64 a).wf = true) : I64 a := by
  simp [Lit.wf, IntKind.min, IntKind.max, IntKind.signed, IntKind.bits] at h
  unfold I64
  omega

theorem flow_Net.calls (A0 : Option Addr) (c0 : Nat) (l0 : List S32) (w : World) (hr0 : Kd.C k32 w A0 l0.length l0) (hc0 : l0.length ≤ c0) (hsz : l0.length * 32 ≤ 140737488351232) (hwf : WfP l0) :
    Calls Try.prog 28 #[.slice A0 l0.length c0] w fun e w' => ∃ (v : Value) (ts : List S32) (f : Int), e = .returned (.tuple #[v, .int .i64 f]) ∧ Kd.R k32 32 w' w.heap.size (fun _ => True) v ts ∧ Below w.heap.size w w' ∧ ts.length ≤ l0.length ∧ NetGood l0 ts f := by
  have hcall := gatherP.calls A0 c0 l0 w hr0 hc0 hsz hwf
  have HC := Aside0.mk hcall
  clear hr0 hc0 hwf hcall
  go_enter Try.func28, Try.ntmps28
  go_wp2_with (go_at_call 46; refine HC.out.mono ?_; rintro e w1 ⟨v, ts, f, rfl, h1, h2, h3, h4⟩)
  go_ret2
  exact ⟨_, ts, f, rfl, h1, h2, h3, h4⟩

set_option maxHeartbeats 2000000 in
set_option maxRecDepth 100000 in
theorem FlowNets.walk0 (A0 : Option Addr) (c0 : Nat) (l0 : List S32) (w : World) (hr0 : Kd.C k32 w A0 l0.length l0) (hc0 : l0.length ≤ c0) (hsz : l0.length * 32 ≤ 140737488351232) (hwf : WfP l0) :
    Calls Try.prog 8 #[.slice A0 l0.length c0] w fun e w' => e = .returned (.bool true) ∧ Below w.heap.size w w' := by
  have HR0 := Aside0.mk hr0
  have HC0 := Aside0.mk hc0
  have HWF := Aside0.mk hwf
  clear hr0 hc0 hwf
  have hn : (l0.length : Int) ≤ 4398046510976 := by omega
  have hn0 : (0 : Int) ≤ (l0.length : Int) := by omega
  go_enter Try.func8, Try.ntmps8
  go_wp2_with fail
  refine (roomy.calls A0 c0 l0 w HR0.out HC0.out hsz).mono ?_
  rintro e w1 ⟨v1, rfl, ho1, hb1⟩
  obtain ⟨A1, c1, rfl⟩ := Kd.R_slice ho1
  obtain ⟨_, hc1, _⟩ := Kd.R_reads' ho1
  have hlm : (l0 ++ marks l0.length).length = l0.length + 3 := by simp [marks]
  rw [hlm] at hc1 ho1 ⊢
  have HO1 := Aside0.mk ho1
  have HB1 := Aside0.mk hb1
  have HC1 := Aside0.mk hc1
  have hcc : ((l0.length + 3 : Nat) : Int) ≤ (c1 : Int) := by omega
  have HT1 := Aside0.mk (Kd.R_take ho1 (m := l0.length) (by rw [List.length_append]; omega))
  rw [List.take_left] at HT1
  clear ho1 hb1 hc1 hlm
  go_wp2_with fail
  refine (flow_Net.calls A1 c1 l0 w1 (Kd.R_reads' HT1.out).2.2 (by have := HC1.out; omega) hsz HWF.out).mono ?_
  rintro e w2 ⟨v2, ts, f, rfl, ho2, hb2, hlen, hg⟩
  obtain ⟨A2, c2, rfl⟩ := Kd.R_slice ho2
  obtain ⟨k, hk⟩ := refNets l0 (by omega) (fun x hx => wf_I64n (HWF.out x hx).2) (fun x hx => (HWF.out x hx).1) ts f hg
  have HO2 := Aside0.mk ho2
  have HB2 := Aside0.mk hb2
  have HK := Aside0.mk hk
  clear ho2 hb2 hg hk
  have HR2 := Aside0.mk (Kd.C_below (Kd.C_below HR0.out HB1.out) HB2.out)
  go_wp2_with fail
  refine (payofflaw03_twin.calls A0 c0 l0 l0 w2 HR2.out HC0.out (by unfold payofflaw03_twin.f; simp; omega)).mono ?_
  rintro e w3 ⟨v3, rfl, ho3, hb3⟩
  obtain ⟨A3, c3, rfl⟩ := Kd.R_slice ho3
  have HO3 := Aside0.mk ho3
  have HB3 := Aside0.mk hb3
  clear ho3 hb3
  go_wp2_with fail
  refine (payoffref03_Net.calls k A3 c3 l0 ts f w3 (Kd.R_reads' HO3.out).2.2 (Kd.R_reads' HO3.out).2.1 HK.out).mono ?_
  rintro e w4 ⟨v4, rfl, ho4, hb4⟩
  obtain ⟨A4, c4, rfl⟩ := Kd.R_slice ho4
  have HO4 := Aside0.mk ho4
  have HB4 := Aside0.mk hb4
  clear ho4 hb4
  have hff : (f == f) = true := by simp
  have HO2' := Aside0.mk (Kd.R_below (Kd.R_below HO2.out HB3.out) HB4.out)
  go_wp2_with fail
  refine (payofflaw03_same.calls (ts.length + 1) A2 c2 ts A4 c4 ts true w4 (Kd.R_reads' HO2'.out).2.2 (Kd.R_reads' HO2'.out).2.1 (Kd.R_reads' HO4.out).2.2 (Kd.R_reads' HO4.out).2.1 (same_self ts (by omega) _ (by omega))).mono ?_
  rintro e w5 ⟨rfl, hd5⟩
  have HB5 := Aside0.mk hd5.below
  clear hd5
  go_wp2_with fail
  refine (hold.calls (.slice A2 ts.length c2) (.slice none 0 0) ts [] (-9) w1.heap.size (fun _ => True) (fun _ => True) w5 w5 (Kd.R_below HO2'.out HB5.out) (Kd.R_nil _ _ _ _ _) (by have := HB2.out.size; have := HB3.out.size; have := HB4.out.size; have := HB5.out.size; omega) (by omega) (by simp)).mono ?_
  rintro e w7 ⟨rfl, _, _, hx⟩
  have HB7 := Aside0.mk (hx.to_below (B := w1.heap.size) (by have := HB2.out.size; have := HB3.out.size; have := HB4.out.size; have := HB5.out.size; omega) (Kd.R_base HO2.out) (fun k hk => by cases hk))
  clear hx
  have HB15 := Aside0.mk ((((HB2.out.trans (HB3.out.mono HB2.out.size)).trans (HB4.out.mono (Nat.le_trans HB2.out.size HB3.out.size))).trans (HB5.out.mono (Nat.le_trans HB2.out.size (Nat.le_trans HB3.out.size HB4.out.size)))).trans HB7.out)
  have HO5 := Aside0.mk (Kd.R_below HO1.out HB15.out)
  have HC5 := Aside0.mk (Kd.C_below (Kd.C_below HR0.out HB1.out) HB15.out)
  clear HO1 HO2 HO3 HO4 HO2' HT1 HB2 HB3 HB4 HB5 HB7 HR2
  go_wp2_with fail
  have hcall := payofflaw03_untouched.calls (l0.length + 5) A1 c1 (l0 ++ marks l0.length) A0 c0 l0 true w7 (Kd.R_reads' HO5.out).2.2 (by rw [← (Kd.R_reads' HO5.out).1]; exact (Kd.R_reads' HO5.out).2.1) HC5.out HC0.out (untouched_room l0 (by omega) _ (by omega))
  rw [show (l0 ++ marks l0.length).length = l0.length + 3 by simp [marks]] at hcall
  refine hcall.mono ?_
  rintro e w6 ⟨rfl, hd6⟩
  have HB6 := Aside0.mk hd6.below
  clear hd6
  go_wp2
  go_ret
  exact ⟨rfl, HB1.out.trans ((HB15.out.mono HB1.out.size).trans (HB6.out.mono (Nat.le_trans HB1.out.size HB15.out.size)))⟩
end Go.Proofs.Ytdfndbegifdejaa.PFlowExact
