/- Words of the seat's print that this law's texts use, laid by this session's program slim.py. No condition beyond those typed. -/
import Derived.Test.YtkjpelgdppmbjaaGreatDoorVTInv
import Derived.Test.YtkjpelgdppmbjaaGreatDoorVTFootNe
namespace Go.Proofs.YtkjpelgdppmbjaaGreatDoorW.PrintWords
open Go.RowKit
end Go.Proofs.YtkjpelgdppmbjaaGreatDoorW.PrintWords
namespace Go.Proofs.YtkjpelgdppmbjaaGreatDoorW.PrintLast
section
variable {ops : Array Oper} {a : Act} {o og : Oper} {g : Nat} {t : Tmp} {u : Bool}
end
end Go.Proofs.YtkjpelgdppmbjaaGreatDoorW.PrintLast
