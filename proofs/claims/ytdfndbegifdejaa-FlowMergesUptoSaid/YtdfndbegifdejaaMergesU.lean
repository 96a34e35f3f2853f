/- FlowMerges: the walk under the bound of the second form. -/
import Derived.Test.YtdfndbegifdejaaMerges
import Derived.Test.YtdfndbegifdejaaKFlowMerges
import Derived.Test.YtdfndbegifdejaaBulk
namespace Go.Proofs.Ytdfndbegifdejaa.PFlowExact
set_option linter.unusedVariables false
open Go.RowKit Go.Proofs.YtdfndbegifdejaaW.PrintWords Go.Proofs.YtdfndbegifdejaaMine

theorem bk22_len (l : List S32) : l.length ≤ bk22 l := by
  have := dsum_len (fun a => bk32 a) (fun a => by unfold bk32; omega) l
  unfold bk22; omega
theorem bk40_flat : ∀ l : List (List S32), l.flatten.length + 1 ≤ bk40 l
  | [] => by simp [bk40, dsum]
  | a :: r => by
    have h1 := bk40_flat r
    have h2 := bk22_len a
    unfold bk40 at *
    simp only [List.flatten_cons, List.length_append, List.map_cons, dsum]
    omega
theorem bk40_len (l : List (List S32)) : l.length ≤ bk40 l := by
  have := dsum_len (fun a => bk22 a) (fun a => by unfold bk22; omega) l
  unfold bk40; omega
theorem FlowMerges.walk (A0 : Option Addr) (c0 : Nat) (l0 : List (List S32)) (w : World) (hr0 : Kd.C (Kd.slice 32 k32) w A0 l0.length l0) (hc0 : l0.length ≤ c0) (_ : WF40 l0) (hb : bk40 l0 ≤ 1048576) :
    Calls Try.prog 6 #[.slice A0 l0.length c0] w fun e w' => e = .returned (.bool true) ∧ Below w.heap.size w w' :=
  FlowMerges.walk0 A0 c0 l0 w hr0 hc0 (Nat.le_trans (bk40_len l0) hb) (by have := bk40_flat l0; omega)
end Go.Proofs.Ytdfndbegifdejaa.PFlowExact
