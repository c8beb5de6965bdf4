/- Facts of the row of FnShortest, closed, in parts: this session's own text. -/
import Derived.Test.YtkjpelgdppmbjaaGreatDoorRows
import Derived.ProofKit
import Derived.WalkKit
namespace Go.Proofs.YtkjpelgdppmbjaaGreatDoor.fnShortest
open Go Go.ChangeShapes Go.WideShapes Go.ChangeAt Go.RowKit
theorem part25 : (Tryz.prog.mayEnter) = true := by kernel_rfl
end Go.Proofs.YtkjpelgdppmbjaaGreatDoor.fnShortest
