/- The program's Sqrt, as the standard's operation on words: a plain function and its contract. The word is of 64 bits. -/
import Derived.Test.YtkkohiflkhicpaaGWord
namespace Go.Proofs.Ytkkohiflkhicpaa.G
open Go.RowKit Go.Proofs.YtkkohiflkhicpaaW.PrintWords Go.Proofs.Ytkkohiflkhicpaa.CG Go.Proofs.Ytkkohiflkhicpaa.CH
def impl_Sqrt (a0 : Int) : Option Int := if inU64 a0 = true then some (((sqrtT a0.toNat : Nat)) : Int) else none
theorem math_Sqrt_num (x r : Nat) (w : World) (hd : Ieee.double.sqrt x = some r) : Calls Try.prog 56 #[.float .f64 x] w fun e w' => e = .returned (.float .f64 r) ∧ w = w' := by
  have hc : ∀ W, (callFunc 61 #[.float .f64 x]).run Try.prog W = .ok (.value (.float .f64 r)) W := fun W => by
    rw [run_callFunc_extern Try.func61 (by kernel_rfl) (by kernel_rfl) (by kernel_rfl) (e := Extern.MathSqrt.sqrt) (by kernel_rfl)]
    have hd' : FloatKind.f64.format.sqrt x = some r := hd
    change (Sem.run Try.prog (match FloatKind.f64.format.sqrt x with | some r => (pure (.float .f64 r) : Sem Value) | none => do pure (.float .f64 (← choose (.nanBits .f64 x x)))) W).andThen _ = _
    rw [hd']
    rfl
  clear hd
  go_enter Try.func56, Try.ntmps56
  go_wp2
  go_ret
  exact ⟨rfl, rfl⟩
theorem math_Sqrt_nan (x : Nat) (w : World) (hd : Ieee.double.sqrt x = none) : Calls Try.prog 56 #[.float .f64 x] w fun e w' => e = .returned (.float .f64 (drawnNaN w (.nanBits .f64 x x))) ∧ w' = w.drewN 1 := by
  have hc : ∀ W, (callFunc 61 #[.float .f64 x]).run Try.prog W = .ok (.value (.float .f64 (drawnNaN W (.nanBits .f64 x x)))) (W.drewN 1) := fun W => by
    rw [run_callFunc_extern Try.func61 (by kernel_rfl) (by kernel_rfl) (by kernel_rfl) (e := Extern.MathSqrt.sqrt) (by kernel_rfl)]
    have hd' : FloatKind.f64.format.sqrt x = none := hd
    change (Sem.run Try.prog (match FloatKind.f64.format.sqrt x with | some r => (pure (.float .f64 r) : Sem Value) | none => do pure (.float .f64 (← choose (.nanBits .f64 x x)))) W).andThen _ = _
    rw [hd']
    rfl
  clear hd
  go_enter Try.func56, Try.ntmps56
  go_wp2
  go_ret
  exact ⟨rfl, rfl⟩
theorem impl_Sqrt_calls (a0 r : Int) (w : World) (h : impl_Sqrt a0 = some r) :
    Calls Try.prog 41 #[.int .u64 a0] w fun e w' => e = .returned (.int .u64 r) ∧ Drawn0 w w' := by
  unfold impl_Sqrt at h
  by_cases h0 : inU64 a0 = true
  · rw [if_pos h0] at h
    obtain ⟨x, rfl, hx⟩ := inU64_nat h0
    obtain rfl := Option.some.inj h
    clear h h0
    simp only [Int.toNat_natCast]
    unfold sqrtT
    cases hd : Ieee.double.sqrt x with
    | some r =>
      obtain ⟨q1, q2⟩ := sqrt_some hd
      have hs := fun w => math_Sqrt_num x r w hd
      have HS := Lib.hid hs
      simp only [Option.getD_some]
      clear hd hs
      go_enter Try.func41, Try.ntmps41
      go_wp2_with (first | (go_at_call 44; refine (real64_calls _ _).mono ?_; rintro e w' ⟨rfl, rfl⟩) | (go_at_call 56; refine (HS.out _).mono ?_; rintro e w' ⟨rfl, rfl⟩) | (go_at_call 46; refine (word_num r _ q2 q1).mono ?_; rintro e w' ⟨rfl, rfl⟩))
      all_goals (go_ret; exact ⟨rfl, Drawn0.refl _⟩)
    | none =>
      have hs := fun w => math_Sqrt_nan x w hd
      have HS := Lib.hid hs
      simp only [Option.getD_none]
      clear hd hs
      go_enter Try.func41, Try.ntmps41
      go_wp2_with (first | (go_at_call 44; refine (real64_calls _ _).mono ?_; rintro e w' ⟨rfl, rfl⟩) | (go_at_call 56; refine (HS.out _).mono ?_; rintro e w' ⟨rfl, rfl⟩) | (go_at_call 46; refine (word_nan _ _ (drawnNaN_nan _ _ _).2 (drawnNaN_nan _ _ _).1).mono ?_; rintro e w' ⟨rfl, rfl⟩))
      all_goals (go_ret; exact ⟨rfl, (Drawn0.refl _).step 1⟩)
  · rw [if_neg h0] at h; cases h
end Go.Proofs.Ytkkohiflkhicpaa.G
