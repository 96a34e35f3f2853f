/- FlowTotals: every Totals is the document's, and what was handed in stands: the walk through the law. -/
import Derived.Test.YtdfndbegifdejaaHelp
import Derived.Test.YtdfndbegifdejaaRoomy
import Derived.Test.YtdfndbegifdejaaTotsF
namespace Go.Proofs.Ytdfndbegifdejaa.PFlowExact
set_option linter.unusedVariables false
set_option linter.unusedSimpArgs false
open Go.RowKit Go.Proofs.YtdfndbegifdejaaW.PrintWords Go.Proofs.YtdfndbegifdejaaW.PrintLast Go.Proofs.YtdfndbegifdejaaW.PrintMore Go.Proofs.YtdfndbegifdejaaMine
attribute [local go_sem] max2_int min2_int max_two min_two max_three min_three max_four min_four

theorem sameT_self (a : List S62) (hl : a.length ≤ 140737488355328) (k : Nat) (hk : a.length < k) : payofflaw03_sameTotals.f k a a = some true := by
  unfold payofflaw03_sameTotals.f
  rw [if_pos rfl]
  have key : ∀ (d i : Nat) (k : Nat), a.length - i = d → i ≤ a.length → d < k → payofflaw03_sameTotals.l0 k a a (i : Int) = some true := by
    intro d
    induction d with
    | zero =>
      intro i k hd hi hk
      obtain ⟨k, rfl⟩ : ∃ q, k = q + 1 := ⟨k - 1, by omega⟩
      simp only [payofflaw03_sameTotals.l0]
      rw [if_neg (by omega)]
    | succ d ih =>
      intro i k hd hi hk
      obtain ⟨k, rfl⟩ : ∃ q, k = q + 1 := ⟨k - 1, by omega⟩
      simp only [payofflaw03_sameTotals.l0]
      rw [if_pos (by omega), if_pos (by omega), if_pos (by omega), if_neg (by simp)]
      rw [show wrap64 ((i : Int) + 1) = ((i + 1 : Nat) : Int) by unfold wrap64; omega]
      exact ih (i + 1) k (by omega) (by omega) (by omega)
  exact key a.length 0 k (by omega) (by omega) (by omega)

theorem wf_I64 {a : Int} (h : (Lit.int .i64 a).wf = true) : I64 a := by
  simp [Lit.wf, IntKind.min, IntKind.max, IntKind.signed, IntKind.bits] at h
  unfold I64
  omega

theorem flow_Totals.calls (A0 : Option Addr) (c0 : Nat) (l0 : List S32) (w : World) (hr0 : Kd.C k32 w A0 l0.length l0) (hc0 : l0.length ≤ c0) (hsz : l0.length * 32 ≤ 140737488351232) (hwf : WfA l0) :
    Calls Try.prog 24 #[.slice A0 l0.length c0] w fun e w' => ∃ (v : Value) (ts : List S62) (f : Int), e = .returned (.tuple #[v, .int .i64 f]) ∧ Kd.R k62 62 w' w.heap.size (fun _ => True) v ts ∧ Below w.heap.size w w' ∧ ts.length ≤ l0.length ∧ TotGood l0 ts f := by
  have hcall := gatherS.calls A0 c0 l0 w hr0 hc0 hsz hwf
  have HC := Aside0.mk hcall
  clear hr0 hc0 hwf hcall
  go_enter Try.func24, Try.ntmps24
  go_wp2_with (go_at_call 42; refine HC.out.mono ?_; rintro e w1 ⟨v, ts, f, rfl, h1, h2, h3, h4⟩)
  go_ret2
  exact ⟨_, ts, f, rfl, h1, h2, h3, h4⟩

set_option maxHeartbeats 2000000 in
set_option maxRecDepth 100000 in
theorem FlowTotals.walk0 (A0 : Option Addr) (c0 : Nat) (l0 : List S32) (w : World) (hr0 : Kd.C k32 w A0 l0.length l0) (hc0 : l0.length ≤ c0) (hsz : l0.length * 32 ≤ 140737488351232) (hwf : WfA l0) :
    Calls Try.prog 7 #[.slice A0 l0.length c0] w fun e w' => e = .returned (.bool true) ∧ Below w.heap.size w w' := by
  have HR0 := Aside0.mk hr0
  have HC0 := Aside0.mk hc0
  have HWF := Aside0.mk hwf
  clear hr0 hc0 hwf
  have hn : (l0.length : Int) ≤ 4398046510976 := by omega
  have hn0 : (0 : Int) ≤ (l0.length : Int) := by omega
  go_enter Try.func7, Try.ntmps7
  go_wp2_with fail
  refine (roomy.calls A0 c0 l0 w HR0.out HC0.out hsz).mono ?_
  rintro e w1 ⟨v1, rfl, ho1, hb1⟩
  obtain ⟨A1, c1, rfl⟩ := Kd.R_slice ho1
  obtain ⟨_, hc1, _⟩ := Kd.R_reads' ho1
  have hlm : (l0 ++ marks l0.length).length = l0.length + 3 := by simp [marks]
  rw [hlm] at hc1 ho1 ⊢
  have HO1 := Aside0.mk ho1
  have HB1 := Aside0.mk hb1
  have HC1 := Aside0.mk hc1
  have hcc : ((l0.length + 3 : Nat) : Int) ≤ (c1 : Int) := by omega
  have HT1 := Aside0.mk (Kd.R_take ho1 (m := l0.length) (by rw [List.length_append]; omega))
  rw [List.take_left] at HT1
  clear ho1 hb1 hc1 hlm
  go_wp2_with fail
  refine (flow_Totals.calls A1 c1 l0 w1 (Kd.R_reads' HT1.out).2.2 (by have := HC1.out; omega) hsz HWF.out).mono ?_
  rintro e w2 ⟨v2, ts, f, rfl, ho2, hb2, hlen, hg⟩
  obtain ⟨A2, c2, rfl⟩ := Kd.R_slice ho2
  obtain ⟨k, hk⟩ := refTotals l0 (by omega) (fun x hx => wf_I64 (HWF.out x hx).2) ts f hg
  have HO2 := Aside0.mk ho2
  have HB2 := Aside0.mk hb2
  have HK := Aside0.mk hk
  clear ho2 hb2 hg hk
  have HR2 := Aside0.mk (Kd.C_below (Kd.C_below HR0.out HB1.out) HB2.out)
  go_wp2_with fail
  refine (payofflaw03_twin.calls A0 c0 l0 l0 w2 HR2.out HC0.out (by unfold payofflaw03_twin.f; simp; omega)).mono ?_
  rintro e w3 ⟨v3, rfl, ho3, hb3⟩
  obtain ⟨A3, c3, rfl⟩ := Kd.R_slice ho3
  have HO3 := Aside0.mk ho3
  have HB3 := Aside0.mk hb3
  clear ho3 hb3
  go_wp2_with fail
  refine (payoffref03_Totals.calls k A3 c3 l0 ts f w3 (Kd.R_reads' HO3.out).2.2 (Kd.R_reads' HO3.out).2.1 HK.out).mono ?_
  rintro e w4 ⟨v4, rfl, ho4, hb4⟩
  obtain ⟨A4, c4, rfl⟩ := Kd.R_slice ho4
  have HO4 := Aside0.mk ho4
  have HB4 := Aside0.mk hb4
  clear ho4 hb4
  have hff : (f == f) = true := by simp
  have HO2' := Aside0.mk (Kd.R_below (Kd.R_below HO2.out HB3.out) HB4.out)
  go_wp2_with fail
  refine (payofflaw03_sameTotals.calls (ts.length + 1) A2 c2 ts A4 c4 ts true w4 (Kd.R_reads' HO2'.out).2.2 (Kd.R_reads' HO2'.out).2.1 (Kd.R_reads' HO4.out).2.2 (Kd.R_reads' HO4.out).2.1 (sameT_self ts (by omega) _ (by omega))).mono ?_
  rintro e w5 ⟨rfl, hd5⟩
  have HB5 := Aside0.mk hd5.below
  clear hd5
  have HB15 := Aside0.mk (((HB2.out.trans (HB3.out.mono HB2.out.size)).trans (HB4.out.mono (Nat.le_trans HB2.out.size HB3.out.size))).trans (HB5.out.mono (Nat.le_trans HB2.out.size (Nat.le_trans HB3.out.size HB4.out.size))))
  have HO5 := Aside0.mk (Kd.R_below HO1.out HB15.out)
  have HC5 := Aside0.mk (Kd.C_below (Kd.C_below HR0.out HB1.out) HB15.out)
  clear HO1 HO2 HO3 HO4 HO2' HT1 HB2 HB3 HB4 HB5 HR2
  go_wp2_with fail
  have hcall := payofflaw03_untouched.calls (l0.length + 5) A1 c1 (l0 ++ marks l0.length) A0 c0 l0 true w5 (Kd.R_reads' HO5.out).2.2 (by rw [← (Kd.R_reads' HO5.out).1]; exact (Kd.R_reads' HO5.out).2.1) HC5.out HC0.out (untouched_room l0 (by omega) _ (by omega))
  rw [show (l0 ++ marks l0.length).length = l0.length + 3 by simp [marks]] at hcall
  refine hcall.mono ?_
  rintro e w6 ⟨rfl, hd6⟩
  have HB6 := Aside0.mk hd6.below
  clear hd6
  go_wp2
  go_ret
  exact ⟨rfl, HB1.out.trans ((HB15.out.mono HB1.out.size).trans (HB6.out.mono (Nat.le_trans HB1.out.size HB15.out.size)))⟩
end Go.Proofs.Ytdfndbegifdejaa.PFlowExact
