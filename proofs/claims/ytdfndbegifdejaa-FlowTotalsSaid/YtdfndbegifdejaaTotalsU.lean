/- FlowTotals: the walk as the row asks it. -/
import Derived.Test.YtdfndbegifdejaaTotals
import Derived.Test.YtdfndbegifdejaaKFlowTotals
namespace Go.Proofs.Ytdfndbegifdejaa.PFlowExact
set_option linter.unusedVariables false
open Go.RowKit Go.Proofs.YtdfndbegifdejaaW.PrintWords Go.Proofs.YtdfndbegifdejaaMine
theorem wfA_of {l : List S32} (h : WF22 l) : WfA l := fun x hx => by
  have h1 := h.2 x hx
  refine ⟨?_, h1.d2⟩
  have := h1.d1
  unfold reachBytes at this
  unfold maxLen
  omega
theorem FlowTotals.walk (A0 : Option Addr) (c0 : Nat) (l0 : List S32) (w : World) (hr0 : Kd.C k32 w A0 l0.length l0) (hc0 : l0.length ≤ c0) (hwf : WF22 l0) :
    Calls Try.prog 7 #[.slice A0 l0.length c0] w fun e w' => e = .returned (.bool true) ∧ Below w.heap.size w w' :=
  FlowTotals.walk0 A0 c0 l0 w hr0 hc0 (by have := hwf.1; unfold reachBytes at this; omega) (wfA_of hwf)
end Go.Proofs.Ytdfndbegifdejaa.PFlowExact
