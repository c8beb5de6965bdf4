-- by this session's own program mp.py over the kit's printer
import Derived.Test.YtkjpelgdppmbjaaGreatDoorProg
import Derived.Below
import Derived.Deep.Draws
import Derived.Deep.AppendLies
import Derived.Maps.AppendAt
import Derived.OwnWalk
import Derived.Laws.BytesArg
import Derived.Laws.MakeOwn
import Derived.Laws.OwnMore
import Derived.Deep.OwnRows
import Derived.Tactics
import Derived.Lib.ConvBytes
import Derived.Laws.Slices
import Derived.WalkKit
import Derived.KernelRfl
import Derived.RowKit3
import Derived.Deep.LoopGhost
import Derived.Deep.QuietTactic
import Derived.BigQuiet
import Derived.WideLaws
import Derived.Deep.DeepCutAuto
import Derived.Deep.CutBlock
import Derived.Deep.RegionHeld3
import Derived.Laws.Rows
import Derived.Lib.AppendStr
import Derived.ArgAppend
import Derived.Laws.IdiomCopy
import Derived.OrdersHeld
import Derived.Laws.BitsLemmas
import Derived.RowKit
import Derived.Test.YtkjpelgdppmbjaaGreatDoorVEWords
import Derived.Test.YtkjpelgdppmbjaaGreatDoorVELast
import Derived.Test.YtkjpelgdppmbjaaGreatDoorVETab
import Derived.Test.YtkjpelgdppmbjaaGreatDoorVEFour
import Derived.Test.YtkjpelgdppmbjaaGreatDoorVEQPut
import Derived.Test.YtkjpelgdppmbjaaGreatDoorVEApart
import Derived.Test.YtkjpelgdppmbjaaGreatDoorVEArr
import Derived.Test.YtkjpelgdppmbjaaGreatDoorVEZeros
import Derived.Test.YtkjpelgdppmbjaaGreatDoorVEFoot
import Derived.Test.YtkjpelgdppmbjaaGreatDoorVEKept
import Derived.Test.YtkjpelgdppmbjaaGreatDoorVEShare
import Derived.Test.YtkjpelgdppmbjaaGreatDoorVEN
import Derived.Test.YtkjpelgdppmbjaaGreatDoorVEFootNe
import Derived.Test.YtkjpelgdppmbjaaGreatDoorVEAt
import Derived.Test.YtkjpelgdppmbjaaGreatDoorVEEqStruct
import Derived.Test.YtkjpelgdppmbjaaGreatDoorVERepsOne
import Derived.Test.YtkjpelgdppmbjaaGreatDoorVEInv
import Derived.Test.YtkjpelgdppmbjaaGreatDoorVEInvWords
import Derived.Test.YtkjpelgdppmbjaaGreatDoorVEGuard
import Derived.Test.YtkjpelgdppmbjaaGreatDoorVENEv
import Derived.Test.YtkjpelgdppmbjaaGreatDoorVEMore
namespace Go.Proofs.YtkjpelgdppmbjaaGreatDoor.MFnExactScan
open Go.RowKit Go.Proofs.YtkjpelgdppmbjaaGreatDoorW.PrintWords Go.Proofs.YtkjpelgdppmbjaaGreatDoorW.PrintLast Go.Proofs.YtkjpelgdppmbjaaGreatDoorW.PrintMore
attribute [local go_sem] max2_int min2_int max_two min_two max_three min_three max_four min_four
set_option linter.unusedVariables false
set_option linter.unusedSimpArgs false



def errW : Option Int → Value
 | none => .nilIface
 | some c => .iface 0 (.int .i64 c)
theorem errW_none : errW none = .nilIface := rfl
theorem errW_some (c : Int) : errW (some c) = .iface 0 (.int .i64 c) := rfl

theorem info5 : (Tryz.prog.info? 5).map (fun i => (i.zero, i.size, i.bytes)) = some (some (.int .u8 0), 1, 1) := by kernel_rfl
-- the values' own types

end Go.Proofs.YtkjpelgdppmbjaaGreatDoor.MFnExactScan
