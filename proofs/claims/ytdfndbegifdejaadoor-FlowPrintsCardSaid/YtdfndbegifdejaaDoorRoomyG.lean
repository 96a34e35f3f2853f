/- roomy: its contract, as the printer's texts ask it. -/
import Derived.Test.YtdfndbegifdejaaDoorRoomy
namespace Go.Proofs.YtdfndbegifdejaaDoor.GD
open Go.RowKit Go.Proofs.YtdfndbegifdejaaDoorW.PrintWords
def payofflaw03_roomy.f (l : List S32) : Option (List S32) := if l.length * 32 ≤ 140737488351232 then some (l ++ marks l.length) else none
theorem payofflaw03_roomy.calls (A0 : Option Addr) (c0 : Nat) (l0 : List S32) (r : List S32) (w : World) (hr0 : Kd.C k32 w A0 l0.length l0) (hc0 : l0.length ≤ c0) (h : payofflaw03_roomy.f l0 = some r) :
    Calls Tryd.prog 9 #[.slice A0 l0.length c0] w fun e w' => ∃ v0_ : Value, e = .returned (v0_) ∧ Kd.R k32 32 w' w.heap.size (fun _ => True) v0_ r ∧ Below w.heap.size w w' := by
  unfold payofflaw03_roomy.f at h
  split at h
  · rename_i hsz
    obtain rfl := Option.some.inj h
    exact (roomy.calls A0 c0 l0 w hr0 hc0 hsz)
  · cases h
end Go.Proofs.YtdfndbegifdejaaDoor.GD
