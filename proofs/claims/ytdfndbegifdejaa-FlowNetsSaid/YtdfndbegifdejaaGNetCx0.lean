-- By this session's own program over the kit's printer; functions named GIVEN are proved by hand. Not trusted: Lean checks it.
import Derived.Test.YtdfndbegifdejaaProg
import Derived.Below
import Derived.Deep.Draws
import Derived.Deep.AppendLies
import Derived.Maps.AppendAt
import Derived.OwnWalk
import Derived.Laws.BytesArg
import Derived.Laws.MakeOwn
import Derived.Laws.OwnMore
import Derived.Deep.OwnRows
import Derived.Tactics
import Derived.Lib.ConvBytes
import Derived.Laws.Slices
import Derived.WalkKit
import Derived.KernelRfl
import Derived.RowKit3
import Derived.Deep.LoopGhost
import Derived.Deep.QuietTactic
import Derived.BigQuiet
import Derived.WideLaws
import Derived.Deep.DeepCutAuto
import Derived.Deep.CutBlock
import Derived.Deep.RegionHeld3
import Derived.Laws.Rows
import Derived.Lib.AppendStr
import Derived.ArgAppend
import Derived.Laws.IdiomCopy
import Derived.OrdersHeld
import Derived.Laws.BitsLemmas
import Derived.RowKit
import Derived.Test.YtdfndbegifdejaaWWords
import Derived.Test.YtdfndbegifdejaaWLast
import Derived.Test.YtdfndbegifdejaaWTab
import Derived.Test.YtdfndbegifdejaaWFour
import Derived.Test.YtdfndbegifdejaaWQPut
import Derived.Test.YtdfndbegifdejaaWApart
import Derived.Test.YtdfndbegifdejaaWArr
import Derived.Test.YtdfndbegifdejaaWZeros
import Derived.Test.YtdfndbegifdejaaWFoot
import Derived.Test.YtdfndbegifdejaaWKept
import Derived.Test.YtdfndbegifdejaaWShare
import Derived.Test.YtdfndbegifdejaaWN
import Derived.Test.YtdfndbegifdejaaWFootNe
import Derived.Test.YtdfndbegifdejaaWAt
import Derived.Test.YtdfndbegifdejaaWEqStruct
import Derived.Test.YtdfndbegifdejaaWRepsOne
import Derived.Test.YtdfndbegifdejaaWInv
import Derived.Test.YtdfndbegifdejaaWInvWords
import Derived.Test.YtdfndbegifdejaaWGuard
import Derived.Test.YtdfndbegifdejaaWNEv
import Derived.Test.YtdfndbegifdejaaWMore
namespace Go.Proofs.Ytdfndbegifdejaa.GNetC
open Go.RowKit Go.Proofs.YtdfndbegifdejaaW.PrintWords Go.Proofs.YtdfndbegifdejaaW.PrintLast Go.Proofs.YtdfndbegifdejaaW.PrintMore
attribute [local go_sem] max2_int min2_int max_two min_two max_three min_three max_four min_four   -- for this text's walks alone
set_option linter.unusedVariables false
set_option linter.unusedSimpArgs false



def errW : Option Int → Value
  | none => .nilIface
  | some c => .iface 0 (.int .i64 c)
theorem errW_none : errW none = .nilIface := rfl
theorem errW_some (c : Int) : errW (some c) = .iface 0 (.int .i64 c) := rfl

theorem info3 : (Try.prog.info? 3).map (fun i => (i.zero, i.size, i.bytes)) = some (some (.int .i64 0), 1, 8) := by kernel_rfl
-- the values' own types

end Go.Proofs.Ytdfndbegifdejaa.GNetC
