/- Facts of the row of FnShows, closed, in parts: this session's own text. -/
import Derived.Test.YtkjpelgdppmbjaaGreatDoorRows
import Derived.ProofKit
import Derived.WalkKit
namespace Go.Proofs.YtkjpelgdppmbjaaGreatDoor.fnShows
open Go Go.ChangeShapes Go.WideShapes Go.ChangeAt Go.RowKit
theorem part26 : ((Rows.fnShowsRow.lifted == Tryz.prog.liftsFinal)) = true := by kernel_rfl
theorem part27 : ((Tryz.prog.make == some Rows.fnShowsRow.make)) = true := by kernel_rfl
theorem part28 : ((Rows.fnShowsRow.kinds == (if Rows.fnShowsRow.domain.isEmpty then [] else Tryz.f10.params.toList.map fun t => match Tryz.prog.underlying t with | some (.int k) => some k | _ => none))) = true := by kernel_rfl
theorem part29 : ((Rows.fnShowsRow.pinned == Rows.fnShowsRow.pinnedBy)) = true := by kernel_rfl
theorem part30 : ((Rows.fnShowsRow.veiled == (Tryz.f10.params.toList ++ Rows.fnShowsSpec.plain.varTypes Tryz.prog ++ Tryz.f10.resultTypes.toList).any (Tryz.prog.veiledRec ·))) = true := by kernel_rfl
theorem part31 : (Rows.fnShowsRow.veiledFits Tryz.prog Tryz.f10.params.toList (Tryz.f10.params.toList ++ Rows.fnShowsSpec.plain.varTypes Tryz.prog ++ Tryz.f10.resultTypes.toList)) = true := by kernel_rfl
end Go.Proofs.YtkjpelgdppmbjaaGreatDoor.fnShows
