-- by this session's own program mp.py over the kit's printer
import Derived.Test.YtkjpelgdppmbjaaGreatDoorSYZip
import Derived.Test.YtkjpelgdppmbjaaGreatDoorProg
import Derived.Below
import Derived.Deep.Draws
import Derived.Deep.AppendLies
import Derived.Maps.AppendAt
import Derived.OwnWalk
import Derived.Laws.BytesArg
import Derived.Laws.MakeOwn
import Derived.Laws.OwnMore
import Derived.Deep.OwnRows
import Derived.Tactics
import Derived.Lib.ConvBytes
import Derived.Laws.Slices
import Derived.WalkKit
import Derived.KernelRfl
import Derived.RowKit3
import Derived.Deep.LoopGhost
import Derived.Deep.QuietTactic
import Derived.BigQuiet
import Derived.WideLaws
import Derived.Deep.DeepCutAuto
import Derived.Deep.CutBlock
import Derived.Deep.RegionHeld3
import Derived.Laws.Rows
import Derived.Lib.AppendStr
import Derived.ArgAppend
import Derived.Laws.IdiomCopy
import Derived.OrdersHeld
import Derived.Laws.BitsLemmas
import Derived.RowKit
import Derived.Test.YtkjpelgdppmbjaaGreatDoorVYWords
import Derived.Test.YtkjpelgdppmbjaaGreatDoorVYLast
import Derived.Test.YtkjpelgdppmbjaaGreatDoorVYTab
import Derived.Test.YtkjpelgdppmbjaaGreatDoorVYFour
import Derived.Test.YtkjpelgdppmbjaaGreatDoorVYQPut
import Derived.Test.YtkjpelgdppmbjaaGreatDoorVYApart
import Derived.Test.YtkjpelgdppmbjaaGreatDoorVYArr
import Derived.Test.YtkjpelgdppmbjaaGreatDoorVYZeros
import Derived.Test.YtkjpelgdppmbjaaGreatDoorVYFoot
import Derived.Test.YtkjpelgdppmbjaaGreatDoorVYKept
import Derived.Test.YtkjpelgdppmbjaaGreatDoorVYShare
import Derived.Test.YtkjpelgdppmbjaaGreatDoorVYN
import Derived.Test.YtkjpelgdppmbjaaGreatDoorVYFootNe
import Derived.Test.YtkjpelgdppmbjaaGreatDoorVYAt
import Derived.Test.YtkjpelgdppmbjaaGreatDoorVYEqStruct
import Derived.Test.YtkjpelgdppmbjaaGreatDoorVYRepsOne
import Derived.Test.YtkjpelgdppmbjaaGreatDoorVYInv
import Derived.Test.YtkjpelgdppmbjaaGreatDoorVYInvWords
import Derived.Test.YtkjpelgdppmbjaaGreatDoorVYGuard
import Derived.Test.YtkjpelgdppmbjaaGreatDoorVYNEv
import Derived.Test.YtkjpelgdppmbjaaGreatDoorVYMore
namespace Go.Proofs.YtkjpelgdppmbjaaGreatDoor.MFnExactScan
open Go.RowKit YtkjpelgdppmbjaaGreatDoorW.PrintWords YtkjpelgdppmbjaaGreatDoorW.PrintLast YtkjpelgdppmbjaaGreatDoorW.PrintMore
attribute [local go_sem] max2_int min2_int max_two min_two max_three min_three max_four min_four
set_option linter.unusedVariables false
set_option linter.unusedSimpArgs false



def errW : Option Int → Value
 | none => .nilIface
 | some c => .iface 0 (.int .i64 c)
theorem errW_none : errW none = .nilIface := rfl
theorem errW_some (c : Int) : errW (some c) = .iface 0 (.int .i64 c) := rfl

theorem info5 : (Tryz.prog.info? 5).map (fun i => (i.zero, i.size, i.bytes)) = some (some (.int .u8 0), 1, 1) := by kernel_rfl
-- the values' own types

end Go.Proofs.YtkjpelgdppmbjaaGreatDoor.MFnExactScan
