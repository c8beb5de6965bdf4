/- This session's text, made small by mini.py. No condition beyond those typed. -/
import Derived.Test.YtfoekmfpcahmiabGreatDoorVQWords
namespace Go.Proofs.YtfoekmfpcahmiabGreatDoorW.PrintWords
open Go.RowKit
section
variable {P : Program} {d : Nat} {xs ys : Array Value} {f : Field} {fs : List Field} {a b : Value} {r s : Bool} {w : World}
end
end Go.Proofs.YtfoekmfpcahmiabGreatDoorW.PrintWords
