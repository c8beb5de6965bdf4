/- Facts of the row of FnShows, closed, in parts: this session's own text. -/
import Derived.Test.YtkjpelgdppmbjaaGreatDoorRows
import Derived.ProofKit
import Derived.WalkKit
namespace Go.Proofs.YtkjpelgdppmbjaaGreatDoor.fnShows
open Go Go.ChangeShapes Go.WideShapes Go.ChangeAt Go.RowKit
theorem part9 : ((Rows.fnShowsRow.inPlace == Tryz.prog.inPlace 10)) = true := by kernel_rfl
theorem part10 : ((Rows.fnShowsRow.unfollowed == Tryz.prog.unfollowed 10)) = true := by kernel_rfl
end Go.Proofs.YtkjpelgdppmbjaaGreatDoor.fnShows
