/- Words of the seat's print that this law's texts use, laid by this session's program slim.py. No condition beyond those typed. -/
import Derived.Test.YtkjpelgdppmbjaaGreatDoorVTFootNe
namespace Go.Proofs.YtkjpelgdppmbjaaGreatDoorW.PrintWords
open Go.RowKit
section
variable {w w' u : World} {m B g : Nat} {o : Obj} {row : Option Nat} {S : Nat → Prop} {a : Addr} {v : Value}
end
namespace Kd
section
variable {α : Type} {d : Kd α} {e base n m : Nat} {ok : Nat → Prop} {w w' : World} {v : Value} {A : Option Addr} {xs : List α}
end
end Kd
end Go.Proofs.YtkjpelgdppmbjaaGreatDoorW.PrintWords
