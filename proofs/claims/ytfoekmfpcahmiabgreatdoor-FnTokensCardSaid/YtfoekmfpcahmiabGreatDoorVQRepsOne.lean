/- This session's text, made small by mini.py. No condition beyond those typed. -/
import Derived.Test.YtfoekmfpcahmiabGreatDoorVQWords
namespace Go.Proofs.YtfoekmfpcahmiabGreatDoorW.PrintWords
theorem Reps.one {α : Type} {R : α → List Value → Prop} {ps : List α} {cs : List Value} {p : α} {v : Value} (hp : R p [v]) (h : Reps R 1 ps cs) : Reps R 1 (p :: ps) (v :: cs):=by
  refine ⟨by simp [h.1],fun j q hq => ?_⟩
  cases j with
  | zero =>
    simp only [List.getElem?_cons_zero,Option.some.injEq] at hq;subst hq
    simpa using hp
  | succ j =>
    simp only [List.getElem?_cons_succ] at hq;have h1:=h.2 j q hq
    simpa [Nat.mul_one] using h1
end Go.Proofs.YtfoekmfpcahmiabGreatDoorW.PrintWords
