-- PRINTED BY print.sh 35421559b90ae4d0a3588c463048766b98c2df88dd9212a6774a882060cdf62d: not written by this session
import Derived.Test.YtfippnoadhhmbaaProg
import Derived.Below
import Derived.Deep.Draws
import Derived.Deep.AppendLies
import Derived.Maps.AppendAt
import Derived.OwnWalk
import Derived.Laws.BytesArg
import Derived.Laws.MakeOwn
import Derived.Laws.OwnMore
import Derived.Deep.OwnRows
import Derived.Tactics
import Derived.Lib.ConvBytes
import Derived.Laws.Slices
import Derived.WalkKit
import Derived.KernelRfl
import Derived.RowKit3
import Derived.Deep.LoopGhost
import Derived.Deep.QuietTactic
import Derived.BigQuiet
import Derived.WideLaws
import Derived.Deep.DeepCutAuto
import Derived.Deep.CutBlock
import Derived.Deep.RegionHeld3
import Derived.Laws.Rows
import Derived.Lib.AppendStr
import Derived.ArgAppend
import Derived.Laws.IdiomCopy
import Derived.OrdersHeld
import Derived.Laws.BitsLemmas
import Derived.RowKit
import Derived.Test.YtfippnoadhhmbaaWWords
import Derived.Test.YtfippnoadhhmbaaWLast
import Derived.Test.YtfippnoadhhmbaaWTab
import Derived.Test.YtfippnoadhhmbaaWFour
import Derived.Test.YtfippnoadhhmbaaWQPut
import Derived.Test.YtfippnoadhhmbaaWApart
import Derived.Test.YtfippnoadhhmbaaWArr
import Derived.Test.YtfippnoadhhmbaaWZeros
import Derived.Test.YtfippnoadhhmbaaWFoot
import Derived.Test.YtfippnoadhhmbaaWKept
import Derived.Test.YtfippnoadhhmbaaWShare
import Derived.Test.YtfippnoadhhmbaaWN
import Derived.Test.YtfippnoadhhmbaaWFootNe
import Derived.Test.YtfippnoadhhmbaaWAt
import Derived.Test.YtfippnoadhhmbaaWEqStruct
import Derived.Test.YtfippnoadhhmbaaWRepsOne
import Derived.Test.YtfippnoadhhmbaaWInv
import Derived.Test.YtfippnoadhhmbaaWInvWords
import Derived.Test.YtfippnoadhhmbaaWGuard
import Derived.Test.YtfippnoadhhmbaaWNEv
import Derived.Test.YtfippnoadhhmbaaWMore
namespace Go.Proofs.Ytfippnoadhhmbaa.PFnExactHex
open Go.RowKit Go.Proofs.YtfippnoadhhmbaaW.PrintWords Go.Proofs.YtfippnoadhhmbaaW.PrintLast Go.Proofs.YtfippnoadhhmbaaW.PrintMore
attribute [local go_sem] max2_int min2_int max_two min_two max_three min_three max_four min_four   -- for this text's walks alone
set_option linter.unusedVariables false
set_option linter.unusedSimpArgs false



def errW : Option Int → Value
  | none => .nilIface
  | some c => .iface 0 (.int .i64 c)
theorem errW_none : errW none = .nilIface := rfl
theorem errW_some (c : Int) : errW (some c) = .iface 0 (.int .i64 c) := rfl

theorem info5 : (Try.prog.info? 5).map (fun i => (i.zero, i.size, i.bytes)) = some (some (.int .u8 0), 1, 1) := by kernel_rfl
-- the values' own types

end Go.Proofs.Ytfippnoadhhmbaa.PFnExactHex
