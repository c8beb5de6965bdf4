/- Facts of the row of FnShortest, closed, in parts: this session's own text. -/
import Derived.Test.YtkjpelgdppmbjaaGreatDoorRows
import Derived.ProofKit
import Derived.WalkKit
namespace Go.Proofs.YtkjpelgdppmbjaaGreatDoor.fnShortest
open Go Go.ChangeShapes Go.WideShapes Go.ChangeAt Go.RowKit
theorem part26 : ((Rows.fnShortestRow.lifted == Tryz.prog.liftsFinal)) = true := by kernel_rfl
theorem part27 : ((Tryz.prog.make == some Rows.fnShortestRow.make)) = true := by kernel_rfl
theorem part28 : ((Rows.fnShortestRow.kinds == (if Rows.fnShortestRow.domain.isEmpty then [] else Tryz.f11.params.toList.map fun t => match Tryz.prog.underlying t with | some (.int k) => some k | _ => none))) = true := by kernel_rfl
theorem part29 : ((Rows.fnShortestRow.pinned == Rows.fnShortestRow.pinnedBy)) = true := by kernel_rfl
theorem part30 : ((Rows.fnShortestRow.veiled == (Tryz.f11.params.toList ++ Rows.fnShortestSpec.plain.varTypes Tryz.prog ++ Tryz.f11.resultTypes.toList).any (Tryz.prog.veiledRec ·))) = true := by kernel_rfl
theorem part31 : (Rows.fnShortestRow.veiledFits Tryz.prog Tryz.f11.params.toList (Tryz.f11.params.toList ++ Rows.fnShortestSpec.plain.varTypes Tryz.prog ++ Tryz.f11.resultTypes.toList)) = true := by kernel_rfl
end Go.Proofs.YtkjpelgdppmbjaaGreatDoor.fnShortest
