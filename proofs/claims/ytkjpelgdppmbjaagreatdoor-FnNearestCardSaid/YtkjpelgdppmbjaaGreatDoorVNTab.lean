/- Words of the seat's print that this law's texts use, laid by this session's program slim.py. No condition beyond those typed. -/
import Derived.Test.YtkjpelgdppmbjaaGreatDoorVNLast
import Derived.Test.YtkjpelgdppmbjaaGreatDoorVNWords
namespace Go.Proofs.YtkjpelgdppmbjaaGreatDoorW.PrintLast
open Go.Proofs.YtkjpelgdppmbjaaGreatDoorW.PrintWords (Aside0)
section
variable {md : Region.Mode} {ops : Array Oper} {T : Bool × List (List Nat × List Nat)} {l l' li lj lk : Array Bool} {ds : List Nat} {i j k : Nat}
end
end Go.Proofs.YtkjpelgdppmbjaaGreatDoorW.PrintLast
