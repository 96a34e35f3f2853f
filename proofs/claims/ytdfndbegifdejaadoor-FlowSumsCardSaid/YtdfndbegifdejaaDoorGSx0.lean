-- By this session's own program over the kit's printer; functions named GIVEN are proved by hand. Not trusted: Lean checks it.
import Derived.Test.YtdfndbegifdejaaDoorGDx0
import Derived.Below
import Derived.Deep.Draws
import Derived.Deep.AppendLies
import Derived.Maps.AppendAt
import Derived.OwnWalk
import Derived.Laws.BytesArg
import Derived.Laws.MakeOwn
import Derived.Laws.OwnMore
import Derived.Deep.OwnRows
import Derived.Tactics
import Derived.Lib.ConvBytes
import Derived.Laws.Slices
import Derived.WalkKit
import Derived.KernelRfl
import Derived.RowKit3
import Derived.Deep.LoopGhost
import Derived.Deep.QuietTactic
import Derived.BigQuiet
import Derived.WideLaws
import Derived.Deep.DeepCutAuto
import Derived.Deep.CutBlock
import Derived.Deep.RegionHeld3
import Derived.Laws.Rows
import Derived.Lib.AppendStr
import Derived.ArgAppend
import Derived.Laws.IdiomCopy
import Derived.OrdersHeld
import Derived.Laws.BitsLemmas
import Derived.RowKit
import Derived.Test.YtdfndbegifdejaaDoorWWords
import Derived.Test.YtdfndbegifdejaaDoorWLast
import Derived.Test.YtdfndbegifdejaaDoorWTab
import Derived.Test.YtdfndbegifdejaaDoorWFour
import Derived.Test.YtdfndbegifdejaaDoorWQPut
import Derived.Test.YtdfndbegifdejaaDoorWApart
import Derived.Test.YtdfndbegifdejaaDoorWArr
import Derived.Test.YtdfndbegifdejaaDoorWZeros
import Derived.Test.YtdfndbegifdejaaDoorWFoot
import Derived.Test.YtdfndbegifdejaaDoorWKept
import Derived.Test.YtdfndbegifdejaaDoorWShare
import Derived.Test.YtdfndbegifdejaaDoorWN
import Derived.Test.YtdfndbegifdejaaDoorWFootNe
import Derived.Test.YtdfndbegifdejaaDoorWAt
import Derived.Test.YtdfndbegifdejaaDoorWEqStruct
import Derived.Test.YtdfndbegifdejaaDoorWRepsOne
import Derived.Test.YtdfndbegifdejaaDoorWInv
import Derived.Test.YtdfndbegifdejaaDoorWInvWords
import Derived.Test.YtdfndbegifdejaaDoorWGuard
import Derived.Test.YtdfndbegifdejaaDoorWNEv
import Derived.Test.YtdfndbegifdejaaDoorWMore
namespace Go.Proofs.YtdfndbegifdejaaDoor.GD
open Go.RowKit Go.Proofs.YtdfndbegifdejaaDoorW.PrintWords Go.Proofs.YtdfndbegifdejaaDoorW.PrintLast Go.Proofs.YtdfndbegifdejaaDoorW.PrintMore
attribute [local go_sem] max2_int min2_int max_two min_two max_three min_three max_four min_four   -- for this text's walks alone
set_option linter.unusedVariables false
set_option linter.unusedSimpArgs false



def rd_L3 (xs : List (List S32)) (i : Int) : (List S32) := xs.getD i.toNat ([] : List S32)
theorem at_L3 {w : World} {A : Option Addr} {n : Nat} {xs : List (List S32)} (h : Kd.C (Kd.slice 32 k32) w A n xs) (i : Int) (h0 : 0 ≤ i) (h1 : i < n) : ∃ ad A0 c0, A = some ad ∧ w.cell? (ad.add i.toNat) = some (.slice A0 (rd_L3 xs i).length c0) ∧ (rd_L3 xs i).length ≤ c0 ∧ k32.C w A0 (rd_L3 xs i).length (rd_L3 xs i) := by
  obtain ⟨ad, c, e, _, hK, hc0⟩ := Kd.C_get h ([] : List S32) i h0 h1
  have hc : ∀ j u, c[j]? = some u → w.cell? (ad.add (i.toNat * 1 + j)) = some u := hc0
  obtain ⟨A0, c0, rfl, l0, g0⟩ := hK
  exact ⟨ad, A0, c0, e, by have hq := hc 0 _ rfl; rwa [Nat.mul_one, Nat.add_zero] at hq, l0, g0⟩

end Go.Proofs.YtdfndbegifdejaaDoor.GD
