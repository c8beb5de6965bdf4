-- by this session's own program mp.py over the kit's printer
import Derived.Test.YthbbdnicpbbnpaaProg
import Derived.Below
import Derived.Deep.Draws
import Derived.Deep.AppendLies
import Derived.Maps.AppendAt
import Derived.OwnWalk
import Derived.Laws.BytesArg
import Derived.Laws.MakeOwn
import Derived.Laws.OwnMore
import Derived.Deep.OwnRows
import Derived.Tactics
import Derived.Lib.ConvBytes
import Derived.Laws.Slices
import Derived.WalkKit
import Derived.KernelRfl
import Derived.RowKit3
import Derived.Deep.LoopGhost
import Derived.Deep.QuietTactic
import Derived.BigQuiet
import Derived.WideLaws
import Derived.Deep.DeepCutAuto
import Derived.Deep.CutBlock
import Derived.Deep.RegionHeld3
import Derived.Laws.Rows
import Derived.Lib.AppendStr
import Derived.ArgAppend
import Derived.Laws.IdiomCopy
import Derived.OrdersHeld
import Derived.Laws.BitsLemmas
import Derived.RowKit
import Derived.Test.YthbbdnicpbbnpaaGIndex
import Derived.Test.YthbbdnicpbbnpaaWWords
import Derived.Test.YthbbdnicpbbnpaaWLast
import Derived.Test.YthbbdnicpbbnpaaWTab
import Derived.Test.YthbbdnicpbbnpaaWFour
import Derived.Test.YthbbdnicpbbnpaaWQPut
import Derived.Test.YthbbdnicpbbnpaaWApart
import Derived.Test.YthbbdnicpbbnpaaWArr
import Derived.Test.YthbbdnicpbbnpaaWZeros
import Derived.Test.YthbbdnicpbbnpaaWFoot
import Derived.Test.YthbbdnicpbbnpaaWKept
import Derived.Test.YthbbdnicpbbnpaaWShare
import Derived.Test.YthbbdnicpbbnpaaWN
import Derived.Test.YthbbdnicpbbnpaaWFootNe
import Derived.Test.YthbbdnicpbbnpaaWAt
import Derived.Test.YthbbdnicpbbnpaaWEqStruct
import Derived.Test.YthbbdnicpbbnpaaWRepsOne
import Derived.Test.YthbbdnicpbbnpaaWInv
import Derived.Test.YthbbdnicpbbnpaaWInvWords
import Derived.Test.YthbbdnicpbbnpaaWGuard
import Derived.Test.YthbbdnicpbbnpaaWNEv
import Derived.Test.YthbbdnicpbbnpaaWMore
namespace Go.Proofs.Ythbbdnicpbbnpaa.MFnNumbers
open Go.RowKit Go.Proofs.YthbbdnicpbbnpaaW.PrintWords Go.Proofs.YthbbdnicpbbnpaaW.PrintLast Go.Proofs.YthbbdnicpbbnpaaW.PrintMore
attribute [local go_sem] max2_int min2_int max_two min_two max_three min_three max_four min_four   -- for this text's walks alone
set_option linter.unusedVariables false
set_option linter.unusedSimpArgs false



def errW : Option Int → Value
  | none => .nilIface
  | some c => .iface 0 (.int .i64 c)
theorem errW_none : errW none = .nilIface := rfl
theorem errW_some (c : Int) : errW (some c) = .iface 0 (.int .i64 c) := rfl

theorem info3 : (Try.prog.info? 3).map (fun i => (i.zero, i.size, i.bytes)) = some (some (.int .i64 0), 1, 8) := by kernel_rfl
theorem info5 : (Try.prog.info? 5).map (fun i => (i.zero, i.size, i.bytes)) = some (some (.int .u8 0), 1, 1) := by kernel_rfl
-- the values' own types

end Go.Proofs.Ythbbdnicpbbnpaa.MFnNumbers
