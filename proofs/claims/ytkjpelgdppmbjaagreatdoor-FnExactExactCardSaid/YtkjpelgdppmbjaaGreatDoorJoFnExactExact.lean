-- Facts of the row of FnExactExact, closed: this session's own text.
import Derived.Test.YtkjpelgdppmbjaaGreatDoorRows
import Derived.ProofKit
import Derived.WalkKit
namespace Go.Proofs.YtkjpelgdppmbjaaGreatDoor.fnExactExact
open Go.ChangeShapes Go.WideShapes Go.ChangeAt Go.RowKit
theorem closedFacts : joinedFacts Tryz.prog 4 Tryz.f4 Rows.fnExactExactSpec Rows.fnExactExactRow = true := by kernel_rfl
end Go.Proofs.YtkjpelgdppmbjaaGreatDoor.fnExactExact
