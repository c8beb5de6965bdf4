/- Facts of the row of FnShortest, closed, in parts: this session's own text. -/
import Derived.Test.YtkjpelgdppmbjaaGreatDoorRows
import Derived.ProofKit
import Derived.WalkKit
namespace Go.Proofs.YtkjpelgdppmbjaaGreatDoor.fnShortest
open Go Go.ChangeShapes Go.WideShapes Go.ChangeAt Go.RowKit
theorem part9 : ((Rows.fnShortestRow.inPlace == Tryz.prog.inPlace 11)) = true := by kernel_rfl
theorem part10 : ((Rows.fnShortestRow.unfollowed == Tryz.prog.unfollowed 11)) = true := by kernel_rfl
end Go.Proofs.YtkjpelgdppmbjaaGreatDoor.fnShortest
