/- Facts of the row of FnShortest, closed: this session's own text. -/
import Derived.Test.YtkjpelgdppmbjaaGreatDoorSTJoaFnShortest
import Derived.Test.YtkjpelgdppmbjaaGreatDoorSTJobFnShortest
import Derived.Test.YtkjpelgdppmbjaaGreatDoorSTJocFnShortest
import Derived.Test.YtkjpelgdppmbjaaGreatDoorSTJodFnShortest
import Derived.Test.YtkjpelgdppmbjaaGreatDoorSTJoeFnShortest
namespace Go.Proofs.YtkjpelgdppmbjaaGreatDoor.fnShortest
open Go Go.ChangeShapes Go.WideShapes Go.ChangeAt Go.RowKit
theorem andT {a b : Bool} (h : a = true) (k : b = true) : (a && b) = true := by rw [h, k]; rfl
set_option maxRecDepth 100000 in
theorem closedFacts : joinedFacts Tryz.prog 11 Tryz.f11 Rows.fnShortestSpec Rows.fnShortestRow = true := by
  unfold joinedFacts
  exact andT (andT (andT (andT (andT (andT (andT (andT (andT (andT (andT (andT (andT (andT (andT (andT (andT (andT (andT (andT (andT (andT (andT (andT (andT (andT (andT (andT (andT (andT (andT (part0) part1) part2) part3) part4) part5) part6) part7) part8) part9) part10) part11) part12) part13) part14) part15) part16) part17) part18) part19) part20) part21) part22) part23) part24) part25) part26) part27) part28) part29) part30) part31
end Go.Proofs.YtkjpelgdppmbjaaGreatDoor.fnShortest
