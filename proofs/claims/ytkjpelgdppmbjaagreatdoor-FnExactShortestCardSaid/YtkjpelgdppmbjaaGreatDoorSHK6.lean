/- Walks of the library's number reading: ParseFloat. -/
import Derived.Test.YtkjpelgdppmbjaaGreatDoorSHK5
import Derived.Test.YtkjpelgdppmbjaaGreatDoorSHShelf
import Derived.Laws.Externs
namespace Go.Proofs.YtkjpelgdppmbjaaGreatDoor.SF
open Go.RowKit Go.Proofs.YtkjpelgdppmbjaaGreatDoorW.PrintWords Go.Proofs.YtkjpelgdppmbjaaGreatDoor.CB Go.Proofs.YtkjpelgdppmbjaaGreatDoor.CQ Go.Proofs.YtkjpelgdppmbjaaGreatDoor.PN


end Go.Proofs.YtkjpelgdppmbjaaGreatDoor.SF
