-- Facts of the row of FnExactShowNumber, closed: this session's own text.
import Derived.Test.YtkjpelgdppmbjaaGreatDoorRows
import Derived.ProofKit
import Derived.WalkKit
namespace Go.Proofs.YtkjpelgdppmbjaaGreatDoor.fnExactShowNumber
open Go.ChangeShapes Go.WideShapes Go.ChangeAt Go.RowKit
theorem closedFacts : joinedFacts Tryz.prog 8 Tryz.f8 Rows.fnExactShowNumberSpec Rows.fnExactShowNumberRow = true := by kernel_rfl
end Go.Proofs.YtkjpelgdppmbjaaGreatDoor.fnExactShowNumber
