/- FlowNets: the walk as the row asks it. -/
import Derived.Test.YtdfndbegifdejaaNets
import Derived.Test.YtdfndbegifdejaaKFlowNets
namespace Go.Proofs.Ytdfndbegifdejaa.PFlowExact
set_option linter.unusedVariables false
open Go.RowKit Go.Proofs.YtdfndbegifdejaaW.PrintWords Go.Proofs.YtdfndbegifdejaaMine
theorem wfP_of {l : List S32} (h : WF22 l) : WfP l := fun x hx => by
  have h1 := h.2 x hx
  refine ⟨⟨?_, h1.d0⟩, h1.d2⟩
  have := h1.d1
  unfold reachBytes at this
  unfold maxLen
  simp only
  omega
theorem FlowNets.walk (A0 : Option Addr) (c0 : Nat) (l0 : List S32) (w : World) (hr0 : Kd.C k32 w A0 l0.length l0) (hc0 : l0.length ≤ c0) (hwf : WF22 l0) :
    Calls Try.prog 8 #[.slice A0 l0.length c0] w fun e w' => e = .returned (.bool true) ∧ Below w.heap.size w w' :=
  FlowNets.walk0 A0 c0 l0 w hr0 hc0 (by have := hwf.1; unfold reachBytes at this; omega) (wfP_of hwf)
end Go.Proofs.Ytdfndbegifdejaa.PFlowExact
