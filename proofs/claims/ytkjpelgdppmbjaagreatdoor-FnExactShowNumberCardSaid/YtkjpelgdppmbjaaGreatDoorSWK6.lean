/- Walks of the library's number reading: ParseFloat. -/
import Derived.Test.YtkjpelgdppmbjaaGreatDoorSWZip
import Derived.Test.YtkjpelgdppmbjaaGreatDoorSWK5
import Derived.Test.YtkjpelgdppmbjaaGreatDoorSWShelf
import Derived.Laws.Externs
namespace Go.Proofs.YtkjpelgdppmbjaaGreatDoor.SF
open Go.RowKit YtkjpelgdppmbjaaGreatDoorW.PrintWords CB CQ Go.Proofs.YtkjpelgdppmbjaaGreatDoor.PN


end Go.Proofs.YtkjpelgdppmbjaaGreatDoor.SF
