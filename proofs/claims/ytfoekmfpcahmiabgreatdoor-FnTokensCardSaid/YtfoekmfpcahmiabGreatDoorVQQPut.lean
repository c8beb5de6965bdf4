/- This session's text, made small by mini.py. No condition beyond those typed. -/
import Derived.Test.YtfoekmfpcahmiabGreatDoorVQWords
import Derived.Test.YtfoekmfpcahmiabGreatDoorVQLast
namespace Go.Proofs.YtfoekmfpcahmiabGreatDoorW.PrintWords
open Go.RowKit
namespace Kd
section
variable {α : Type} {d : Kd α} {e base g o n cap : Nat} {ok okp : Nat → Prop} {w W : World} {v : Value} {xs : List α}
end
section
variable {α : Type} {enc : α → Value} {h1 : ∀ x,(enc x).oneCell' = true} {e base g o n cap : Nat} {ok : Nat → Prop} {W : World} {xs : List α}
end
end Kd
end Go.Proofs.YtfoekmfpcahmiabGreatDoorW.PrintWords
