/- This session's text, made small by mini.py. No condition beyond those typed. -/
import Derived.Test.YtfoekmfpcahmiabGreatDoorVQN
namespace Go.Proofs.YtfoekmfpcahmiabGreatDoorW.PrintWords
open Go.RowKit
namespace Kd
section
variable {α : Type} {d : Kd α} {e base n cap g : Nat} {ok ok' okp : Nat → Prop} {w w1 W : World} {v v1 : Value} {xs ys : List α}
end
section
variable {P : Program} {ops : Array Oper} {rest : List Oper} {o : Oper} {a : Act} {Q : Exit → Act → World → Prop} {Kc : Act → World → Prop} {α : Type}
end
end Kd
end Go.Proofs.YtfoekmfpcahmiabGreatDoorW.PrintWords
