-- by this session's own program mp.py over the kit's printer
import Derived.Test.YtkkohiflkhicpaaProg
import Derived.Below
import Derived.Deep.Draws
import Derived.Deep.AppendLies
import Derived.Maps.AppendAt
import Derived.OwnWalk
import Derived.Laws.BytesArg
import Derived.Laws.MakeOwn
import Derived.Laws.OwnMore
import Derived.Deep.OwnRows
import Derived.Tactics
import Derived.Lib.ConvBytes
import Derived.Laws.Slices
import Derived.WalkKit
import Derived.KernelRfl
import Derived.RowKit3
import Derived.Deep.LoopGhost
import Derived.Deep.QuietTactic
import Derived.BigQuiet
import Derived.WideLaws
import Derived.Deep.DeepCutAuto
import Derived.Deep.CutBlock
import Derived.Deep.RegionHeld3
import Derived.Laws.Rows
import Derived.Lib.AppendStr
import Derived.ArgAppend
import Derived.Laws.IdiomCopy
import Derived.OrdersHeld
import Derived.Laws.BitsLemmas
import Derived.RowKit
import Derived.Test.YtkkohiflkhicpaaGAdd
import Derived.Test.YtkkohiflkhicpaaWWords
import Derived.Test.YtkkohiflkhicpaaWLast
import Derived.Test.YtkkohiflkhicpaaWTab
import Derived.Test.YtkkohiflkhicpaaWFour
import Derived.Test.YtkkohiflkhicpaaWQPut
import Derived.Test.YtkkohiflkhicpaaWApart
import Derived.Test.YtkkohiflkhicpaaWArr
import Derived.Test.YtkkohiflkhicpaaWZeros
import Derived.Test.YtkkohiflkhicpaaWFoot
import Derived.Test.YtkkohiflkhicpaaWKept
import Derived.Test.YtkkohiflkhicpaaWShare
import Derived.Test.YtkkohiflkhicpaaWN
import Derived.Test.YtkkohiflkhicpaaWFootNe
import Derived.Test.YtkkohiflkhicpaaWAt
import Derived.Test.YtkkohiflkhicpaaWEqStruct
import Derived.Test.YtkkohiflkhicpaaWRepsOne
import Derived.Test.YtkkohiflkhicpaaWInv
import Derived.Test.YtkkohiflkhicpaaWInvWords
import Derived.Test.YtkkohiflkhicpaaWGuard
import Derived.Test.YtkkohiflkhicpaaWNEv
import Derived.Test.YtkkohiflkhicpaaWMore
namespace Go.Proofs.Ytkkohiflkhicpaa.MFnSmallSums
open Go.RowKit Go.Proofs.YtkkohiflkhicpaaW.PrintWords Go.Proofs.YtkkohiflkhicpaaW.PrintLast Go.Proofs.YtkkohiflkhicpaaW.PrintMore
attribute [local go_sem] max2_int min2_int max_two min_two max_three min_three max_four min_four   -- for this text's walks alone
set_option linter.unusedVariables false
set_option linter.unusedSimpArgs false



def errW : Option Int → Value
  | none => .nilIface
  | some c => .iface 0 (.int .i64 c)
theorem errW_none : errW none = .nilIface := rfl
theorem errW_some (c : Int) : errW (some c) = .iface 0 (.int .i64 c) := rfl

theorem info3 : (Try.prog.info? 3).map (fun i => (i.zero, i.size, i.bytes)) = some (some (.int .i64 0), 1, 8) := by kernel_rfl
-- the values' own types

end Go.Proofs.Ytkkohiflkhicpaa.MFnSmallSums
