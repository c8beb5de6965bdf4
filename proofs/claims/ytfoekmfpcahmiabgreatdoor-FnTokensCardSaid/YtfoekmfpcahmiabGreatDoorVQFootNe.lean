/- This session's text, made small by mini.py. No condition beyond those typed. -/
import Derived.Test.YtfoekmfpcahmiabGreatDoorVQN
namespace Go.Proofs.YtfoekmfpcahmiabGreatDoorW.PrintWords
open Go.RowKit
namespace Kd
section
variable {α : Type} {d : Kd α} {W : World} {g n : Nat} {S ok : Nat → Prop} {A : Option Addr} {ad : Addr} {xs : List α}
end
end Kd
end Go.Proofs.YtfoekmfpcahmiabGreatDoorW.PrintWords
