/- Words of the seat's print that this law's texts use, laid by this session's program slim.py. No condition beyond those typed. -/
import Derived.Test.YtkjpelgdppmbjaaGreatDoorVTWords
import Derived.Laws.StructEq
namespace Go.Proofs.YtkjpelgdppmbjaaGreatDoorW.PrintWords
open Go.RowKit
section
variable {P : Program} {d : Nat} {xs ys : Array Value} {f : Field} {fs : List Field} {a b : Value} {r s : Bool} {w : World}
end
end Go.Proofs.YtkjpelgdppmbjaaGreatDoorW.PrintWords
