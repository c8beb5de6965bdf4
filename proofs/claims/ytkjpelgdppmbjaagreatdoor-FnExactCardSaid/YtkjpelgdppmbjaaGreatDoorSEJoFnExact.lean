-- Facts of the row of FnExact, closed: this session's own text.
import Derived.Test.YtkjpelgdppmbjaaGreatDoorRows
import Derived.ProofKit
import Derived.WalkKit
namespace Go.Proofs.YtkjpelgdppmbjaaGreatDoor.fnExact
open Go.ChangeShapes Go.WideShapes Go.ChangeAt Go.RowKit
theorem closedFacts : joinedFacts Tryz.prog 5 Tryz.f5 Rows.fnExactSpec Rows.fnExactRow = true := by kernel_rfl
end Go.Proofs.YtkjpelgdppmbjaaGreatDoor.fnExact
