/- Facts of the row of FnShows, closed, in parts: this session's own text. -/
import Derived.Test.YtkjpelgdppmbjaaGreatDoorRows
import Derived.ProofKit
import Derived.WalkKit
namespace Go.Proofs.YtkjpelgdppmbjaaGreatDoor.fnShows
open Go Go.ChangeShapes Go.WideShapes Go.ChangeAt Go.RowKit
theorem part11 : ((Rows.fnShowsRow.recurses == Tryz.prog.recurses 10)) = true := by kernel_rfl
theorem part12 : ((Rows.fnShowsRow.named == Tryz.prog.varsNamed 10)) = true := by kernel_rfl
end Go.Proofs.YtkjpelgdppmbjaaGreatDoor.fnShows
