/- Words of the seat's print that this law's texts use, laid by this session's program slim.py. No condition beyond those typed. -/
import Derived.Test.YthbbdnicpbbnpaaVCInv
import Derived.Test.YthbbdnicpbbnpaaVCFootNe
namespace Go.Proofs.YthbbdnicpbbnpaaW.PrintWords
open Go.RowKit
end Go.Proofs.YthbbdnicpbbnpaaW.PrintWords
namespace Go.Proofs.YthbbdnicpbbnpaaW.PrintLast
section
variable {ops : Array Oper} {a : Act} {o og : Oper} {g : Nat} {t : Tmp} {u : Bool}
end
end Go.Proofs.YthbbdnicpbbnpaaW.PrintLast
