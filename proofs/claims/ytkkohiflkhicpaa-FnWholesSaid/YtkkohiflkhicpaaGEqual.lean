/- The program's Equal, as the standard's comparison of words: a plain function and its contract. The words are of 64 bits. -/
import Derived.Test.YtkkohiflkhicpaaGWord
namespace Go.Proofs.Ytkkohiflkhicpaa.G
open Go.RowKit Go.Proofs.YtkkohiflkhicpaaW.PrintWords Go.Proofs.Ytkkohiflkhicpaa.CG Go.Proofs.Ytkkohiflkhicpaa.CH
def impl_Equal (a0 a1 : Int) : Option Bool := if inU64 a0 = true then (if inU64 a1 = true then some (Ieee.double.order a0.toNat a1.toNat == some .eq) else none) else none
theorem impl_Equal_calls (a0 a1 : Int) (r : Bool) (w : World) (h : impl_Equal a0 a1 = some r) :
    Calls Try.prog 16 #[.int .u64 a0, .int .u64 a1] w fun e w' => e = .returned (.bool r) ∧ Drawn0 w w' := by
  unfold impl_Equal at h
  by_cases h0 : inU64 a0 = true
  · rw [if_pos h0] at h
    by_cases h1 : inU64 a1 = true
    · rw [if_pos h1] at h
      obtain ⟨x, rfl, hx⟩ := inU64_nat h0
      obtain ⟨y, rfl, hy⟩ := inU64_nat h1
      obtain rfl := Option.some.inj h
      clear h h0 h1
      simp only [Int.toNat_natCast]
      go_enter Try.func16, Try.ntmps16
      go_wp2_with (go_at_call 44; refine (real64_calls _ _).mono ?_; rintro e w' ⟨rfl, rfl⟩)
      all_goals (go_ret; exact ⟨rfl, Drawn0.refl _⟩)
    · rw [if_neg h1] at h; cases h
  · rw [if_neg h0] at h; cases h
end Go.Proofs.Ytkkohiflkhicpaa.G
