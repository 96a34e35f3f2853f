/- FlowUntils: every Until is the document's, and what was handed in stands: the walk through the law. -/
import Derived.Test.YtdfndbegifdejaaHelp
import Derived.Test.YtdfndbegifdejaaHold
namespace Go.Proofs.Ytdfndbegifdejaa.PFlowExact
set_option linter.unusedVariables false
set_option linter.unusedSimpArgs false
open Go.RowKit Go.Proofs.YtdfndbegifdejaaW.PrintWords Go.Proofs.YtdfndbegifdejaaW.PrintLast Go.Proofs.YtdfndbegifdejaaW.PrintMore Go.Proofs.YtdfndbegifdejaaMine
attribute [local go_sem] max2_int min2_int max_two min_two max_three min_three max_four min_four

set_option maxHeartbeats 2000000 in
set_option maxRecDepth 100000 in
theorem FlowUntils.walk (A0 : Option Addr) (c0 : Nat) (l0 : List S32) (a1 : Int) (w : World) (hr0 : Kd.C k32 w A0 l0.length l0) (hc0 : l0.length ≤ c0) (hsz : l0.length * 32 ≤ 140737488351232) :
    Calls Try.prog 3 #[.slice A0 l0.length c0, .int .i64 a1] w fun e w' => e = .returned (.bool true) ∧ Below w.heap.size w w' := by
  have HR0 := Aside0.mk hr0
  have HC0 := Aside0.mk hc0
  clear hr0 hc0
  have hn : (l0.length : Int) ≤ 4398046510976 := by omega
  have hn0 : (0 : Int) ≤ (l0.length : Int) := by omega
  go_enter Try.func3, Try.ntmps3
  go_wp2_with fail
  refine (roomy.calls A0 c0 l0 w HR0.out HC0.out hsz).mono ?_
  rintro e w1 ⟨v1, rfl, ho1, hb1⟩
  obtain ⟨A1, c1, rfl⟩ := Kd.R_slice ho1
  obtain ⟨_, hc1, _⟩ := Kd.R_reads' ho1
  have hlm : (l0 ++ marks l0.length).length = l0.length + 3 := by simp [marks]
  rw [hlm] at hc1 ho1 ⊢
  have HO1 := Aside0.mk ho1
  have HB1 := Aside0.mk hb1
  have HC1 := Aside0.mk hc1
  have hcc : ((l0.length + 3 : Nat) : Int) ≤ (c1 : Int) := by omega
  have HT1 := Aside0.mk (Kd.R_take ho1 (m := l0.length) (by rw [List.length_append]; omega))
  rw [List.take_left] at HT1
  clear ho1 hb1 hc1 hlm
  go_wp2_with fail
  refine (flow_Until.calls (l0.length + 1) A1 c1 l0 a1 (upto_ a1 l0) w1 (Kd.R_reads' HT1.out).2.2 (by have := HC1.out; omega) (until_f a1 l0 (by omega) _ (by omega))).mono ?_
  rintro e w2 ⟨v2, rfl, ho2, hb2⟩
  obtain ⟨A2, c2, rfl⟩ := Kd.R_slice ho2
  have HO2 := Aside0.mk ho2
  have HB2 := Aside0.mk hb2
  clear ho2 hb2
  have hu := upto_len a1 l0
  obtain ⟨u, hu'⟩ : ∃ u, u = upto_ a1 l0 := ⟨_, rfl⟩
  rw [← hu'] at HO2 hu ⊢
  have HU := Aside0.mk hu'
  clear hu'
  go_wp2_with fail
  refine (payoffref03_Until.calls (l0.length + 1) A0 c0 l0 a1 u w2 (Kd.C_below (Kd.C_below HR0.out HB1.out) HB2.out) HC0.out (by rw [HU.out]; exact refUntil_f a1 l0 (by omega) _ (by omega))).mono ?_
  rintro e w3 ⟨v3, rfl, ho3, hb3⟩
  obtain ⟨A3, c3, rfl⟩ := Kd.R_slice ho3
  have HO3 := Aside0.mk ho3
  have HB3 := Aside0.mk hb3
  clear ho3 hb3
  go_wp2_with fail
  refine (payofflaw03_same.calls (u.length + 1) A2 c2 u A3 c3 u true w3 (Kd.C_below (Kd.R_reads' HO2.out).2.2 HB3.out) (Kd.R_reads' HO2.out).2.1 (Kd.R_reads' HO3.out).2.2 (Kd.R_reads' HO3.out).2.1 (same_self u (by omega) _ (by omega))).mono ?_
  rintro e w4 ⟨rfl, hd4⟩
  have HB4 := Aside0.mk hd4.below
  clear hd4
  go_wp2_with fail
  refine (hold.calls (.slice A2 u.length c2) (.slice none 0 0) u [] (-9) w1.heap.size (fun _ => True) (fun _ => True) w4 w4 (Kd.R_below (Kd.R_below HO2.out HB3.out) HB4.out) (Kd.R_nil _ _ _ _ _) (by have := HB2.out.size; have := HB3.out.size; have := HB4.out.size; omega) (by omega) (by simp)).mono ?_
  rintro e w5 ⟨rfl, _, _, hx⟩
  have HB5 := Aside0.mk (hx.to_below (B := w1.heap.size) (by have := HB2.out.size; have := HB3.out.size; have := HB4.out.size; omega) (Kd.R_base HO2.out) (fun k hk => by cases hk))
  clear hx
  have HB15 := Aside0.mk (((HB2.out.trans (HB3.out.mono HB2.out.size)).trans (HB4.out.mono (Nat.le_trans HB2.out.size HB3.out.size))).trans HB5.out)
  have HO5 := Aside0.mk (Kd.R_below HO1.out HB15.out)
  have HC5 := Aside0.mk (Kd.C_below (Kd.C_below HR0.out HB1.out) HB15.out)
  clear HO1 HO2 HO3 HT1 HB2 HB3 HB4 HB5
  go_wp2_with fail
  have hcall := payofflaw03_untouched.calls (l0.length + 5) A1 c1 (l0 ++ marks l0.length) A0 c0 l0 true w5 (Kd.R_reads' HO5.out).2.2 (by rw [← (Kd.R_reads' HO5.out).1]; exact (Kd.R_reads' HO5.out).2.1) HC5.out HC0.out (untouched_room l0 (by omega) _ (by omega))
  rw [show (l0 ++ marks l0.length).length = l0.length + 3 by simp [marks]] at hcall
  refine hcall.mono ?_
  rintro e w6 ⟨rfl, hd6⟩
  have HB6 := Aside0.mk hd6.below
  clear hd6
  go_wp2
  go_ret
  exact ⟨rfl, HB1.out.trans ((HB15.out.mono HB1.out.size).trans (HB6.out.mono (Nat.le_trans HB1.out.size HB15.out.size)))⟩
end Go.Proofs.Ytdfndbegifdejaa.PFlowExact
