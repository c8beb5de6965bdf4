-- by this session's own program mp.py over the kit's printer
import Derived.Test.YtcnajbnamgohnaaProg
import Derived.Below
import Derived.Deep.Draws
import Derived.Deep.AppendLies
import Derived.Maps.AppendAt
import Derived.OwnWalk
import Derived.Laws.BytesArg
import Derived.Laws.MakeOwn
import Derived.Laws.OwnMore
import Derived.Deep.OwnRows
import Derived.Tactics
import Derived.Lib.ConvBytes
import Derived.Laws.Slices
import Derived.WalkKit
import Derived.KernelRfl
import Derived.RowKit3
import Derived.Deep.LoopGhost
import Derived.Deep.QuietTactic
import Derived.BigQuiet
import Derived.WideLaws
import Derived.Deep.DeepCutAuto
import Derived.Deep.CutBlock
import Derived.Deep.RegionHeld3
import Derived.Laws.Rows
import Derived.Lib.AppendStr
import Derived.ArgAppend
import Derived.Laws.IdiomCopy
import Derived.OrdersHeld
import Derived.Laws.BitsLemmas
import Derived.RowKit
import Derived.Test.YtcnajbnamgohnaaWWords
import Derived.Test.YtcnajbnamgohnaaWLast
import Derived.Test.YtcnajbnamgohnaaWTab
import Derived.Test.YtcnajbnamgohnaaWFour
import Derived.Test.YtcnajbnamgohnaaWQPut
import Derived.Test.YtcnajbnamgohnaaWApart
import Derived.Test.YtcnajbnamgohnaaWArr
import Derived.Test.YtcnajbnamgohnaaWZeros
import Derived.Test.YtcnajbnamgohnaaWFoot
import Derived.Test.YtcnajbnamgohnaaWKept
import Derived.Test.YtcnajbnamgohnaaWShare
import Derived.Test.YtcnajbnamgohnaaWN
import Derived.Test.YtcnajbnamgohnaaWFootNe
import Derived.Test.YtcnajbnamgohnaaWAt
import Derived.Test.YtcnajbnamgohnaaWEqStruct
import Derived.Test.YtcnajbnamgohnaaWRepsOne
import Derived.Test.YtcnajbnamgohnaaWInv
import Derived.Test.YtcnajbnamgohnaaWInvWords
import Derived.Test.YtcnajbnamgohnaaWGuard
import Derived.Test.YtcnajbnamgohnaaWNEv
import Derived.Test.YtcnajbnamgohnaaWMore
namespace Go.Proofs.Ytcnajbnamgohnaa.MFnExactConstOk
open Go.RowKit Go.Proofs.YtcnajbnamgohnaaW.PrintWords Go.Proofs.YtcnajbnamgohnaaW.PrintLast Go.Proofs.YtcnajbnamgohnaaW.PrintMore
attribute [local go_sem] max2_int min2_int max_two min_two max_three min_three max_four min_four   -- for this text's walks alone
set_option linter.unusedVariables false
set_option linter.unusedSimpArgs false



def errW : Option Int → Value
  | none => .nilIface
  | some c => .iface 0 (.int .i64 c)
theorem errW_none : errW none = .nilIface := rfl
theorem errW_some (c : Int) : errW (some c) = .iface 0 (.int .i64 c) := rfl

-- the values' own types

end Go.Proofs.Ytcnajbnamgohnaa.MFnExactConstOk
