-- by this session's own program mp.py over the kit's printer
import Derived.Test.YtkjpelgdppmbjaaDoorProg
import Derived.Below
import Derived.Deep.Draws
import Derived.Deep.AppendLies
import Derived.Maps.AppendAt
import Derived.OwnWalk
import Derived.Laws.BytesArg
import Derived.Laws.MakeOwn
import Derived.Laws.OwnMore
import Derived.Deep.OwnRows
import Derived.Tactics
import Derived.Lib.ConvBytes
import Derived.Laws.Slices
import Derived.WalkKit
import Derived.KernelRfl
import Derived.RowKit3
import Derived.Deep.LoopGhost
import Derived.Deep.QuietTactic
import Derived.BigQuiet
import Derived.WideLaws
import Derived.Deep.DeepCutAuto
import Derived.Deep.CutBlock
import Derived.Deep.RegionHeld3
import Derived.Laws.Rows
import Derived.Lib.AppendStr
import Derived.ArgAppend
import Derived.Laws.IdiomCopy
import Derived.OrdersHeld
import Derived.Laws.BitsLemmas
import Derived.RowKit
import Derived.Test.YtkjpelgdppmbjaaDoorWWords
import Derived.Test.YtkjpelgdppmbjaaDoorWLast
import Derived.Test.YtkjpelgdppmbjaaDoorWTab
import Derived.Test.YtkjpelgdppmbjaaDoorWFour
import Derived.Test.YtkjpelgdppmbjaaDoorWQPut
import Derived.Test.YtkjpelgdppmbjaaDoorWApart
import Derived.Test.YtkjpelgdppmbjaaDoorWArr
import Derived.Test.YtkjpelgdppmbjaaDoorWZeros
import Derived.Test.YtkjpelgdppmbjaaDoorWFoot
import Derived.Test.YtkjpelgdppmbjaaDoorWKept
import Derived.Test.YtkjpelgdppmbjaaDoorWShare
import Derived.Test.YtkjpelgdppmbjaaDoorWN
import Derived.Test.YtkjpelgdppmbjaaDoorWFootNe
import Derived.Test.YtkjpelgdppmbjaaDoorWAt
import Derived.Test.YtkjpelgdppmbjaaDoorWEqStruct
import Derived.Test.YtkjpelgdppmbjaaDoorWRepsOne
import Derived.Test.YtkjpelgdppmbjaaDoorWInv
import Derived.Test.YtkjpelgdppmbjaaDoorWInvWords
import Derived.Test.YtkjpelgdppmbjaaDoorWGuard
import Derived.Test.YtkjpelgdppmbjaaDoorWNEv
import Derived.Test.YtkjpelgdppmbjaaDoorWMore
namespace Go.Proofs.YtkjpelgdppmbjaaDoor.MFnExactNearest
open Go.RowKit Go.Proofs.YtkjpelgdppmbjaaDoorW.PrintWords Go.Proofs.YtkjpelgdppmbjaaDoorW.PrintLast Go.Proofs.YtkjpelgdppmbjaaDoorW.PrintMore
attribute [local go_sem] max2_int min2_int max_two min_two max_three min_three max_four min_four   -- for this text's walks alone
set_option linter.unusedVariables false
set_option linter.unusedSimpArgs false



def errW : Option Int → Value
  | none => .nilIface
  | some c => .iface 0 (.int .i64 c)
theorem errW_none : errW none = .nilIface := rfl
theorem errW_some (c : Int) : errW (some c) = .iface 0 (.int .i64 c) := rfl

theorem info5 : (Tryd.prog.info? 5).map (fun i => (i.zero, i.size, i.bytes)) = some (some (.int .u8 0), 1, 1) := by kernel_rfl
theorem info22 : (Tryd.prog.info? 22).map (fun i => (i.zero, i.size, i.bytes)) = some (some (.int .u64 0), 1, 8) := by kernel_rfl
-- the values' own types

end Go.Proofs.YtkjpelgdppmbjaaDoor.MFnExactNearest
