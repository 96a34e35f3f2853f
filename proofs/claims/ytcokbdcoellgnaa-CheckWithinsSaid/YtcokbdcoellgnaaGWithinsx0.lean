-- By this session's own program over the kit's printer; functions named GIVEN are proved by hand. Not trusted: Lean checks it.
import Derived.Test.YtcokbdcoellgnaaProg
import Derived.Below
import Derived.Deep.Draws
import Derived.Deep.AppendLies
import Derived.Maps.AppendAt
import Derived.OwnWalk
import Derived.Laws.BytesArg
import Derived.Laws.MakeOwn
import Derived.Laws.OwnMore
import Derived.Deep.OwnRows
import Derived.Tactics
import Derived.Lib.ConvBytes
import Derived.Laws.Slices
import Derived.WalkKit
import Derived.KernelRfl
import Derived.RowKit3
import Derived.Deep.LoopGhost
import Derived.Deep.QuietTactic
import Derived.BigQuiet
import Derived.WideLaws
import Derived.Deep.DeepCutAuto
import Derived.Deep.CutBlock
import Derived.Deep.RegionHeld3
import Derived.Laws.Rows
import Derived.Lib.AppendStr
import Derived.ArgAppend
import Derived.Laws.IdiomCopy
import Derived.OrdersHeld
import Derived.Laws.BitsLemmas
import Derived.RowKit
import Derived.Test.YtcokbdcoellgnaaWWords
import Derived.Test.YtcokbdcoellgnaaWLast
import Derived.Test.YtcokbdcoellgnaaWTab
import Derived.Test.YtcokbdcoellgnaaWFour
import Derived.Test.YtcokbdcoellgnaaWQPut
import Derived.Test.YtcokbdcoellgnaaWApart
import Derived.Test.YtcokbdcoellgnaaWArr
import Derived.Test.YtcokbdcoellgnaaWZeros
import Derived.Test.YtcokbdcoellgnaaWFoot
import Derived.Test.YtcokbdcoellgnaaWKept
import Derived.Test.YtcokbdcoellgnaaWShare
import Derived.Test.YtcokbdcoellgnaaWN
import Derived.Test.YtcokbdcoellgnaaWFootNe
import Derived.Test.YtcokbdcoellgnaaWAt
import Derived.Test.YtcokbdcoellgnaaWEqStruct
import Derived.Test.YtcokbdcoellgnaaWRepsOne
import Derived.Test.YtcokbdcoellgnaaWInv
import Derived.Test.YtcokbdcoellgnaaWInvWords
import Derived.Test.YtcokbdcoellgnaaWGuard
import Derived.Test.YtcokbdcoellgnaaWNEv
import Derived.Test.YtcokbdcoellgnaaWMore
namespace Go.Proofs.Ytcokbdcoellgnaa.GWithins
open Go.RowKit Go.Proofs.YtcokbdcoellgnaaW.PrintWords Go.Proofs.YtcokbdcoellgnaaW.PrintLast Go.Proofs.YtcokbdcoellgnaaW.PrintMore
attribute [local go_sem] max2_int min2_int max_two min_two max_three min_three max_four min_four   -- for this text's walks alone
set_option linter.unusedVariables false
set_option linter.unusedSimpArgs false



def errW : Option Int → Value
  | none => .nilIface
  | some c => .iface 0 (.int .i64 c)
theorem errW_none : errW none = .nilIface := rfl
theorem errW_some (c : Int) : errW (some c) = .iface 0 (.int .i64 c) := rfl

-- the values' own types

end Go.Proofs.Ytcokbdcoellgnaa.GWithins
