/- FlowPrints: the plain law, and the walk as the row asks it. -/
import Derived.Test.YtdfndbegifdejaaDoorPrnR
import Derived.Test.YtdfndbegifdejaaDoorHelpU
import Derived.Test.YtdfndbegifdejaaDoorKFlowPrints
namespace Go.Proofs.YtdfndbegifdejaaDoor.GD
set_option linter.unusedVariables false
set_option linter.unusedSimpArgs false
open Go.RowKit Go.Proofs.YtdfndbegifdejaaDoorW.PrintWords
theorem FlowPrints.pure (l0 : List S32) (hsz : l0.length * 32 ≤ 140737488351232) (hw : WfI l0) : ∃ k, payofflaw03_FlowPrints.f k l0 = some true := by
  refine ⟨2 * l0.length + 30, ?_⟩
  unfold payofflaw03_FlowPrints.f payofflaw03_roomy.f
  rw [if_pos hsz]
  simp only [Option.bind_some]
  rw [if_pos (by omega), if_pos (by rw [List.length_append]; omega)]
  have ht : (l0 ++ marks l0.length).take ((l0.length : Int) : Int).toNat = l0 := by simp
  rw [ht]
  unfold flow_Print.f
  rw [if_pos ⟨hw, by omega⟩, refPrint_f l0 (by omega) hw _ (by omega)]
  simp only [Option.bind_some]
  rw [if_pos trivial, if_pos trivial, untouched_room l0 (by omega) _ (by omega)]
  rfl
theorem inI_of {n : Int} (h : (Lit.int .i64 n).wf = true) : InI n := by
  have e1 : IntKind.i64.min = -9223372036854775808 := by decide
  have e2 : IntKind.i64.max = 9223372036854775807 := by decide
  simp only [Lit.wf, e1, e2, Bool.and_eq_true, decide_eq_true_eq] at h
  exact ⟨h.1, h.2⟩
theorem wfI_of {l : List S32} (h : ∀ a ∈ l, WF32 a) : WfI l := fun x hx => ⟨inI_of (h x hx).d0, inI_of (h x hx).d2⟩
theorem FlowPrints.walk (A0 : Option Addr) (c0 : Nat) (l0 : List S32) (w : World) (HT : Aside0 (ItoaTab w)) (hr0 : Kd.C k32 w A0 l0.length l0) (hc0 : l0.length ≤ c0) (hwf : WF22 l0) :
    Calls Tryd.prog 3 #[.slice A0 l0.length c0] w fun e w' => e = .returned (.bool true) ∧ Below w.heap.size w w' := by
  obtain ⟨k, hk⟩ := FlowPrints.pure l0 hwf.1 (wfI_of hwf.2)
  exact payofflaw03_FlowPrints.calls k A0 c0 l0 true w HT hr0 hc0 hk
end Go.Proofs.YtdfndbegifdejaaDoor.GD
