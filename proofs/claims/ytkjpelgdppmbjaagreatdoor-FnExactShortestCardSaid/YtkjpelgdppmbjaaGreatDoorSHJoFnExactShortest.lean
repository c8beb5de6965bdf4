-- Facts of the row of FnExactShortest, closed: this session's own text.
import Derived.Test.YtkjpelgdppmbjaaGreatDoorRows
import Derived.ProofKit
import Derived.WalkKit
namespace Go.Proofs.YtkjpelgdppmbjaaGreatDoor.fnExactShortest
open Go.ChangeShapes Go.WideShapes Go.ChangeAt Go.RowKit
theorem closedFacts : joinedFacts Tryz.prog 6 Tryz.f6 Rows.fnExactShortestSpec Rows.fnExactShortestRow = true := by kernel_rfl
end Go.Proofs.YtkjpelgdppmbjaaGreatDoor.fnExactShortest
