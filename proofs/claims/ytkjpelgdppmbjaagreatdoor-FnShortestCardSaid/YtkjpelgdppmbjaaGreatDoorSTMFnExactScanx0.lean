-- by this session's own program mp.py over the kit's printer
import Derived.Test.YtkjpelgdppmbjaaGreatDoorSTZip
import Derived.Test.YtkjpelgdppmbjaaGreatDoorProg
import Derived.Below
import Derived.Deep.Draws
import Derived.Deep.AppendLies
import Derived.Maps.AppendAt
import Derived.OwnWalk
import Derived.Laws.BytesArg
import Derived.Laws.MakeOwn
import Derived.Laws.OwnMore
import Derived.Deep.OwnRows
import Derived.Tactics
import Derived.Lib.ConvBytes
import Derived.Laws.Slices
import Derived.WalkKit
import Derived.KernelRfl
import Derived.RowKit3
import Derived.Deep.LoopGhost
import Derived.Deep.QuietTactic
import Derived.BigQuiet
import Derived.WideLaws
import Derived.Deep.DeepCutAuto
import Derived.Deep.CutBlock
import Derived.Deep.RegionHeld3
import Derived.Laws.Rows
import Derived.Lib.AppendStr
import Derived.ArgAppend
import Derived.Laws.IdiomCopy
import Derived.OrdersHeld
import Derived.Laws.BitsLemmas
import Derived.RowKit
import Derived.Test.YtkjpelgdppmbjaaGreatDoorVTWords
import Derived.Test.YtkjpelgdppmbjaaGreatDoorVTLast
import Derived.Test.YtkjpelgdppmbjaaGreatDoorVTTab
import Derived.Test.YtkjpelgdppmbjaaGreatDoorVTFour
import Derived.Test.YtkjpelgdppmbjaaGreatDoorVTQPut
import Derived.Test.YtkjpelgdppmbjaaGreatDoorVTApart
import Derived.Test.YtkjpelgdppmbjaaGreatDoorVTArr
import Derived.Test.YtkjpelgdppmbjaaGreatDoorVTZeros
import Derived.Test.YtkjpelgdppmbjaaGreatDoorVTFoot
import Derived.Test.YtkjpelgdppmbjaaGreatDoorVTKept
import Derived.Test.YtkjpelgdppmbjaaGreatDoorVTShare
import Derived.Test.YtkjpelgdppmbjaaGreatDoorVTN
import Derived.Test.YtkjpelgdppmbjaaGreatDoorVTFootNe
import Derived.Test.YtkjpelgdppmbjaaGreatDoorVTAt
import Derived.Test.YtkjpelgdppmbjaaGreatDoorVTEqStruct
import Derived.Test.YtkjpelgdppmbjaaGreatDoorVTRepsOne
import Derived.Test.YtkjpelgdppmbjaaGreatDoorVTInv
import Derived.Test.YtkjpelgdppmbjaaGreatDoorVTInvWords
import Derived.Test.YtkjpelgdppmbjaaGreatDoorVTGuard
import Derived.Test.YtkjpelgdppmbjaaGreatDoorVTNEv
import Derived.Test.YtkjpelgdppmbjaaGreatDoorVTMore
namespace Go.Proofs.YtkjpelgdppmbjaaGreatDoor.MFnExactScan
open Go.RowKit YtkjpelgdppmbjaaGreatDoorW.PrintWords YtkjpelgdppmbjaaGreatDoorW.PrintLast YtkjpelgdppmbjaaGreatDoorW.PrintMore
attribute [local go_sem] max2_int min2_int max_two min_two max_three min_three max_four min_four
set_option linter.unusedVariables false
set_option linter.unusedSimpArgs false



def errW : Option Int → Value
 | none => .nilIface
 | some c => .iface 0 (.int .i64 c)
theorem errW_none : errW none = .nilIface := rfl
theorem errW_some (c : Int) : errW (some c) = .iface 0 (.int .i64 c) := rfl

theorem info5 : (Tryz.prog.info? 5).map (fun i => (i.zero, i.size, i.bytes)) = some (some (.int .u8 0), 1, 1) := by kernel_rfl
-- the values' own types

end Go.Proofs.YtkjpelgdppmbjaaGreatDoor.MFnExactScan
