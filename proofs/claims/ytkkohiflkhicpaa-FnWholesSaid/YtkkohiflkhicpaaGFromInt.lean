/- The program's FromInt: the number nearest to a whole number: a plain function and its contract. No condition. -/
import Derived.Test.YtkkohiflkhicpaaGWord
namespace Go.Proofs.Ytkkohiflkhicpaa.G
open Go.RowKit Go.Proofs.YtkkohiflkhicpaaW.PrintWords Go.Proofs.Ytkkohiflkhicpaa.CG Go.Proofs.Ytkkohiflkhicpaa.CH
def impl_FromInt (a0 : Int) : Option Int := some ((Ieee.double.nearest (decide (a0 < 0)) a0.natAbs 0 : Nat) : Int)
theorem impl_FromInt_calls (a0 r : Int) (w : World) (h : impl_FromInt a0 = some r) :
    Calls Try.prog 20 #[.int .i64 a0] w fun e w' => e = .returned (.int .u64 r) ∧ Drawn0 w w' := by
  unfold impl_FromInt at h
  obtain rfl := Option.some.inj h
  clear h
  obtain ⟨q1, q2⟩ := near_notnan (decide (a0 < 0)) a0.natAbs 0
  go_enter Try.func20, Try.ntmps20
  go_wp2_with (go_at_call 46; refine (word_num _ _ q2 q1).mono ?_; rintro e w' ⟨rfl, rfl⟩)
  all_goals (go_ret; exact ⟨rfl, Drawn0.refl _⟩)
end Go.Proofs.Ytkkohiflkhicpaa.G
