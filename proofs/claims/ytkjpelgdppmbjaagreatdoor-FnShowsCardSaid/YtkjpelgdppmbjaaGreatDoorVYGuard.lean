/- Words of the seat's print that this law's texts use, laid by this session's program slim.py. No condition beyond those typed. -/
import Derived.Test.YtkjpelgdppmbjaaGreatDoorVYWords
namespace Go.Proofs.YtkjpelgdppmbjaaGreatDoorW.PrintWords
open Go.RowKit
section
variable {P : Program} {ops : Array Oper} {rest : List Oper} {o : Oper} {a : Act} {Q : Exit → Act → World → Prop} {W : World}
end
end Go.Proofs.YtkjpelgdppmbjaaGreatDoorW.PrintWords
