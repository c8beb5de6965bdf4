-- Facts of the row of FnNearest, closed: this session's own text.
import Derived.Test.YtkjpelgdppmbjaaGreatDoorRows
import Derived.ProofKit
import Derived.WalkKit
namespace Go.Proofs.YtkjpelgdppmbjaaGreatDoor.fnNearest
open Go.ChangeShapes Go.WideShapes Go.ChangeAt Go.RowKit
theorem closedFacts : joinedFacts Tryz.prog 3 Tryz.f3 Rows.fnNearestSpec Rows.fnNearestRow = true := by kernel_rfl
end Go.Proofs.YtkjpelgdppmbjaaGreatDoor.fnNearest
