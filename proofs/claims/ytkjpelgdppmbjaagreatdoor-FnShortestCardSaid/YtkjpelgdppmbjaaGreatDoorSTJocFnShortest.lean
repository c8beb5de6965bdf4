/- Facts of the row of FnShortest, closed, in parts: this session's own text. -/
import Derived.Test.YtkjpelgdppmbjaaGreatDoorRows
import Derived.ProofKit
import Derived.WalkKit
namespace Go.Proofs.YtkjpelgdppmbjaaGreatDoor.fnShortest
open Go Go.ChangeShapes Go.WideShapes Go.ChangeAt Go.RowKit
theorem part11 : ((Rows.fnShortestRow.recurses == Tryz.prog.recurses 11)) = true := by kernel_rfl
theorem part12 : ((Rows.fnShortestRow.named == Tryz.prog.varsNamed 11)) = true := by kernel_rfl
end Go.Proofs.YtkjpelgdppmbjaaGreatDoor.fnShortest
