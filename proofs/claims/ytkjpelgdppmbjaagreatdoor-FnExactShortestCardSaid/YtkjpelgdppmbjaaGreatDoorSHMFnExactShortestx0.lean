-- by this session's own program mp.py over the kit's printer
import Derived.Test.YtkjpelgdppmbjaaGreatDoorProg
import Derived.Below
import Derived.Deep.Draws
import Derived.Deep.AppendLies
import Derived.Maps.AppendAt
import Derived.OwnWalk
import Derived.Laws.BytesArg
import Derived.Laws.MakeOwn
import Derived.Laws.OwnMore
import Derived.Deep.OwnRows
import Derived.Tactics
import Derived.Lib.ConvBytes
import Derived.Laws.Slices
import Derived.WalkKit
import Derived.KernelRfl
import Derived.RowKit3
import Derived.Deep.LoopGhost
import Derived.Deep.QuietTactic
import Derived.BigQuiet
import Derived.WideLaws
import Derived.Deep.DeepCutAuto
import Derived.Deep.CutBlock
import Derived.Deep.RegionHeld3
import Derived.Laws.Rows
import Derived.Lib.AppendStr
import Derived.ArgAppend
import Derived.Laws.IdiomCopy
import Derived.OrdersHeld
import Derived.Laws.BitsLemmas
import Derived.RowKit
import Derived.Test.YtkjpelgdppmbjaaGreatDoorSHKA
import Derived.Test.YtkjpelgdppmbjaaGreatDoorVHWords
import Derived.Test.YtkjpelgdppmbjaaGreatDoorVHLast
import Derived.Test.YtkjpelgdppmbjaaGreatDoorVHTab
import Derived.Test.YtkjpelgdppmbjaaGreatDoorVHFour
import Derived.Test.YtkjpelgdppmbjaaGreatDoorVHQPut
import Derived.Test.YtkjpelgdppmbjaaGreatDoorVHApart
import Derived.Test.YtkjpelgdppmbjaaGreatDoorVHArr
import Derived.Test.YtkjpelgdppmbjaaGreatDoorVHZeros
import Derived.Test.YtkjpelgdppmbjaaGreatDoorVHFoot
import Derived.Test.YtkjpelgdppmbjaaGreatDoorVHKept
import Derived.Test.YtkjpelgdppmbjaaGreatDoorVHShare
import Derived.Test.YtkjpelgdppmbjaaGreatDoorVHN
import Derived.Test.YtkjpelgdppmbjaaGreatDoorVHFootNe
import Derived.Test.YtkjpelgdppmbjaaGreatDoorVHAt
import Derived.Test.YtkjpelgdppmbjaaGreatDoorVHEqStruct
import Derived.Test.YtkjpelgdppmbjaaGreatDoorVHRepsOne
import Derived.Test.YtkjpelgdppmbjaaGreatDoorVHInv
import Derived.Test.YtkjpelgdppmbjaaGreatDoorVHInvWords
import Derived.Test.YtkjpelgdppmbjaaGreatDoorVHGuard
import Derived.Test.YtkjpelgdppmbjaaGreatDoorVHNEv
import Derived.Test.YtkjpelgdppmbjaaGreatDoorVHMore
namespace Go.Proofs.YtkjpelgdppmbjaaGreatDoor.MFnExactShortest
open Go.RowKit Go.Proofs.YtkjpelgdppmbjaaGreatDoorW.PrintWords Go.Proofs.YtkjpelgdppmbjaaGreatDoorW.PrintLast Go.Proofs.YtkjpelgdppmbjaaGreatDoorW.PrintMore
attribute [local go_sem] max2_int min2_int max_two min_two max_three min_three max_four min_four
set_option linter.unusedVariables false
set_option linter.unusedSimpArgs false



def errW : Option Int → Value
 | none => .nilIface
 | some c => .iface 0 (.int .i64 c)
theorem errW_none : errW none = .nilIface := rfl
theorem errW_some (c : Int) : errW (some c) = .iface 0 (.int .i64 c) := rfl

theorem info3 : (Tryz.prog.info? 3).map (fun i => (i.zero, i.size, i.bytes)) = some (some (.int .i64 0), 1, 8) := by kernel_rfl
theorem info5 : (Tryz.prog.info? 5).map (fun i => (i.zero, i.size, i.bytes)) = some (some (.int .u8 0), 1, 1) := by kernel_rfl
theorem info24 : (Tryz.prog.info? 24).map (fun i => (i.zero, i.size, i.bytes)) = some (some (.int .u64 0), 1, 8) := by kernel_rfl
-- the values' own types

end Go.Proofs.YtkjpelgdppmbjaaGreatDoor.MFnExactShortest
