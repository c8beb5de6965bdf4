-- by this session's own program mp.py over the kit's printer
import Derived.Test.YtegcackfdgonaaaProg
import Derived.Below
import Derived.Deep.Draws
import Derived.Deep.AppendLies
import Derived.Maps.AppendAt
import Derived.OwnWalk
import Derived.Laws.BytesArg
import Derived.Laws.MakeOwn
import Derived.Laws.OwnMore
import Derived.Deep.OwnRows
import Derived.Tactics
import Derived.Lib.ConvBytes
import Derived.Laws.Slices
import Derived.WalkKit
import Derived.KernelRfl
import Derived.RowKit3
import Derived.Deep.LoopGhost
import Derived.Deep.QuietTactic
import Derived.BigQuiet
import Derived.WideLaws
import Derived.Deep.DeepCutAuto
import Derived.Deep.CutBlock
import Derived.Deep.RegionHeld3
import Derived.Laws.Rows
import Derived.Lib.AppendStr
import Derived.ArgAppend
import Derived.Laws.IdiomCopy
import Derived.OrdersHeld
import Derived.Laws.BitsLemmas
import Derived.RowKit
import Derived.Test.YtegcackfdgonaaaWWords
import Derived.Test.YtegcackfdgonaaaWLast
import Derived.Test.YtegcackfdgonaaaWTab
import Derived.Test.YtegcackfdgonaaaWFour
import Derived.Test.YtegcackfdgonaaaWQPut
import Derived.Test.YtegcackfdgonaaaWApart
import Derived.Test.YtegcackfdgonaaaWArr
import Derived.Test.YtegcackfdgonaaaWZeros
import Derived.Test.YtegcackfdgonaaaWFoot
import Derived.Test.YtegcackfdgonaaaWKept
import Derived.Test.YtegcackfdgonaaaWShare
import Derived.Test.YtegcackfdgonaaaWN
import Derived.Test.YtegcackfdgonaaaWFootNe
import Derived.Test.YtegcackfdgonaaaWAt
import Derived.Test.YtegcackfdgonaaaWEqStruct
import Derived.Test.YtegcackfdgonaaaWRepsOne
import Derived.Test.YtegcackfdgonaaaWInv
import Derived.Test.YtegcackfdgonaaaWInvWords
import Derived.Test.YtegcackfdgonaaaWGuard
import Derived.Test.YtegcackfdgonaaaWNEv
import Derived.Test.YtegcackfdgonaaaWMore
namespace Go.Proofs.Ytegcackfdgonaaa.MFnTurned
open Go.RowKit Go.Proofs.YtegcackfdgonaaaW.PrintWords Go.Proofs.YtegcackfdgonaaaW.PrintLast Go.Proofs.YtegcackfdgonaaaW.PrintMore
attribute [local go_sem] max2_int min2_int max_two min_two max_three min_three max_four min_four   -- for this text's walks alone
set_option linter.unusedVariables false
set_option linter.unusedSimpArgs false



def errW : Option Int → Value
  | none => .nilIface
  | some c => .iface 0 (.int .i64 c)
theorem errW_none : errW none = .nilIface := rfl
theorem errW_some (c : Int) : errW (some c) = .iface 0 (.int .i64 c) := rfl

theorem info3 : (Try.prog.info? 3).map (fun i => (i.zero, i.size, i.bytes)) = some (some (.int .i64 0), 1, 8) := by kernel_rfl
theorem info5 : (Try.prog.info? 5).map (fun i => (i.zero, i.size, i.bytes)) = some (some (.int .u8 0), 1, 1) := by kernel_rfl
-- the values' own types

end Go.Proofs.Ytegcackfdgonaaa.MFnTurned
