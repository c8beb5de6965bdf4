/- This session's text, made small by mini.py. No condition beyond those typed. -/
import Derived.Test.YtfoekmfpcahmiabGreatDoorVQInv
import Derived.Test.YtfoekmfpcahmiabGreatDoorVQFootNe
namespace Go.Proofs.YtfoekmfpcahmiabGreatDoorW.PrintWords
open Go.RowKit
end Go.Proofs.YtfoekmfpcahmiabGreatDoorW.PrintWords
namespace Go.Proofs.YtfoekmfpcahmiabGreatDoorW.PrintLast
section
variable {ops : Array Oper} {a : Act} {o og : Oper} {g : Nat} {t : Tmp} {u : Bool}
end
end Go.Proofs.YtfoekmfpcahmiabGreatDoorW.PrintLast
