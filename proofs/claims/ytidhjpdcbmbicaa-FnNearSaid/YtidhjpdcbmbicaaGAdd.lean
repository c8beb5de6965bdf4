/- The program's Add, as the standard's operation on words: a plain function and its contract. The words are of 64 bits. -/
import Derived.Test.YtidhjpdcbmbicaaGWord
namespace Go.Proofs.Ytidhjpdcbmbicaa.G
open Go.RowKit Go.Proofs.YtidhjpdcbmbicaaW.PrintWords Go.Proofs.Ytidhjpdcbmbicaa.CG Go.Proofs.Ytidhjpdcbmbicaa.CH
def impl_Add (a0 a1 : Int) : Option Int := if inU64 a0 = true then (if inU64 a1 = true then some (((addT a0.toNat a1.toNat : Nat)) : Int) else none) else none
theorem impl_Add_calls (a0 a1 r : Int) (w : World) (h : impl_Add a0 a1 = some r) :
    Calls Try.prog 10 #[.int .u64 a0, .int .u64 a1] w fun e w' => e = .returned (.int .u64 r) ∧ Drawn0 w w' := by
  unfold impl_Add at h
  by_cases h0 : inU64 a0 = true
  · rw [if_pos h0] at h
    by_cases h1 : inU64 a1 = true
    · rw [if_pos h1] at h
      obtain ⟨x, rfl, hx⟩ := inU64_nat h0
      obtain ⟨y, rfl, hy⟩ := inU64_nat h1
      obtain rfl := Option.some.inj h
      clear h h0 h1
      simp only [Int.toNat_natCast]
      unfold addT
      cases hd : Ieee.double.add x y with
      | some r =>
        obtain ⟨q1, q2⟩ := add_some hd
        have hop : ∀ t w, (binOp .add t (.float .f64 x) (.float .f64 y)).run Try.prog w = .ok (.float .f64 r) w := fun t w => run_float_arith w .add t .f64 x y r hd
        simp only [Option.getD_some]
        clear hd
        go_enter Try.func10, Try.ntmps10
        go_wp2_with (first | (go_at_call 25; refine (real64_calls _ _).mono ?_; rintro e w' ⟨rfl, rfl⟩) | (go_at_call 24; refine (word_num r _ q2 q1).mono ?_; rintro e w' ⟨rfl, rfl⟩))
        all_goals (go_ret; exact ⟨rfl, Drawn0.refl _⟩)
      | none =>
        have hop := run_float_nan .add (by simp) (h := show floatBits .add .f64 x y = none from hd)
        simp only [Option.getD_none]
        clear hd
        go_enter Try.func10, Try.ntmps10
        go_wp2_with (first | (go_at_call 25; refine (real64_calls _ _).mono ?_; rintro e w' ⟨rfl, rfl⟩) | (go_at_call 24; refine (word_nan _ _ (drawnNaN_nan _ _ _).2 (drawnNaN_nan _ _ _).1).mono ?_; rintro e w' ⟨rfl, rfl⟩))
        all_goals (go_ret; exact ⟨rfl, (Drawn0.refl _).step 1⟩)
    · rw [if_neg h1] at h; cases h
  · rw [if_neg h0] at h; cases h
end Go.Proofs.Ytidhjpdcbmbicaa.G
