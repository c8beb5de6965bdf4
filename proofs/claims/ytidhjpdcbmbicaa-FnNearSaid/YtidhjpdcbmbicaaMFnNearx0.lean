-- by this session's own program mp.py over the kit's printer
import Derived.Test.YtidhjpdcbmbicaaProg
import Derived.Below
import Derived.Deep.Draws
import Derived.Deep.AppendLies
import Derived.Maps.AppendAt
import Derived.OwnWalk
import Derived.Laws.BytesArg
import Derived.Laws.MakeOwn
import Derived.Laws.OwnMore
import Derived.Deep.OwnRows
import Derived.Tactics
import Derived.Lib.ConvBytes
import Derived.Laws.Slices
import Derived.WalkKit
import Derived.KernelRfl
import Derived.RowKit3
import Derived.Deep.LoopGhost
import Derived.Deep.QuietTactic
import Derived.BigQuiet
import Derived.WideLaws
import Derived.Deep.DeepCutAuto
import Derived.Deep.CutBlock
import Derived.Deep.RegionHeld3
import Derived.Laws.Rows
import Derived.Lib.AppendStr
import Derived.ArgAppend
import Derived.Laws.IdiomCopy
import Derived.OrdersHeld
import Derived.Laws.BitsLemmas
import Derived.RowKit
import Derived.Test.YtidhjpdcbmbicaaGAdd
import Derived.Test.YtidhjpdcbmbicaaWWords
import Derived.Test.YtidhjpdcbmbicaaWLast
import Derived.Test.YtidhjpdcbmbicaaWTab
import Derived.Test.YtidhjpdcbmbicaaWFour
import Derived.Test.YtidhjpdcbmbicaaWQPut
import Derived.Test.YtidhjpdcbmbicaaWApart
import Derived.Test.YtidhjpdcbmbicaaWArr
import Derived.Test.YtidhjpdcbmbicaaWZeros
import Derived.Test.YtidhjpdcbmbicaaWFoot
import Derived.Test.YtidhjpdcbmbicaaWKept
import Derived.Test.YtidhjpdcbmbicaaWShare
import Derived.Test.YtidhjpdcbmbicaaWN
import Derived.Test.YtidhjpdcbmbicaaWFootNe
import Derived.Test.YtidhjpdcbmbicaaWAt
import Derived.Test.YtidhjpdcbmbicaaWEqStruct
import Derived.Test.YtidhjpdcbmbicaaWRepsOne
import Derived.Test.YtidhjpdcbmbicaaWInv
import Derived.Test.YtidhjpdcbmbicaaWInvWords
import Derived.Test.YtidhjpdcbmbicaaWGuard
import Derived.Test.YtidhjpdcbmbicaaWNEv
import Derived.Test.YtidhjpdcbmbicaaWMore
namespace Go.Proofs.Ytidhjpdcbmbicaa.MFnNear
open Go.RowKit Go.Proofs.YtidhjpdcbmbicaaW.PrintWords Go.Proofs.YtidhjpdcbmbicaaW.PrintLast Go.Proofs.YtidhjpdcbmbicaaW.PrintMore
attribute [local go_sem] max2_int min2_int max_two min_two max_three min_three max_four min_four   -- for this text's walks alone
set_option linter.unusedVariables false
set_option linter.unusedSimpArgs false



def errW : Option Int → Value
  | none => .nilIface
  | some c => .iface 0 (.int .i64 c)
theorem errW_none : errW none = .nilIface := rfl
theorem errW_some (c : Int) : errW (some c) = .iface 0 (.int .i64 c) := rfl

theorem info24 : (Try.prog.info? 24).map (fun i => (i.zero, i.size, i.bytes)) = some (some (.int .u64 0), 1, 8) := by kernel_rfl
-- the values' own types

end Go.Proofs.Ytidhjpdcbmbicaa.MFnNear
