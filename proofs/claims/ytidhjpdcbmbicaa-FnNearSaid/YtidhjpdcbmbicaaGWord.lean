/- The program's sums, products, quotients, roots and comparisons over numbers of 64 bits, as the standard's operations on words: plain functions and their contracts. The words are of 64 bits. -/
import Derived.Test.YtidhjpdcbmbicaaProg
import Derived.Test.YtidhjpdcbmbicaaWWords
import Derived.Test.YtidhjpdcbmbicaaCH
import Derived.WalkKit
import Derived.WalkLawsBesides
import Derived.Laws.Externs
import Derived.KernelRfl
import Derived.Lib.Hide
namespace Go.Proofs.Ytidhjpdcbmbicaa.G
open Go.RowKit Go.Proofs.YtidhjpdcbmbicaaW.PrintWords Go.Proofs.Ytidhjpdcbmbicaa.CG Go.Proofs.Ytidhjpdcbmbicaa.CH

theorem nan_order {x : Nat} (hx : x < 18446744073709551616) : (FloatKind.f64.format.order x x != some .eq) = nanB x := by
  have h := order_eq x x hx hx
  show (Ieee.double.order x x != some .eq) = nanB x
  rw [h]
  cases hn : nanB x
  · rw [if_neg (by simp), Int.compare_eq_eq.2 rfl]; rfl
  · rw [if_pos (by simp)]; rfl
theorem real64_calls (x : Nat) (w : World) : Calls Try.prog 25 #[.int .u64 (x : Int)] w fun e w' => e = .returned (.float .f64 x) ∧ w = w' := by
  have hc : ∀ W, (callFunc 36 #[.int .u64 (x : Int)]).run Try.prog W = .ok (.value (.float .f64 x)) W := fun W => by
    rw [run_callFunc_extern Try.func36 (by kernel_rfl) (by kernel_rfl) (by kernel_rfl) (e := Extern.MathFloatBits.float64frombits) (by kernel_rfl)]; rfl
  go_enter Try.func25, Try.ntmps25
  go_wp2
  go_ret
  exact ⟨rfl, rfl⟩
theorem word_num (x : Nat) (w : World) (hx : x < 18446744073709551616) (h : nanB x = false) : Calls Try.prog 24 #[.float .f64 x] w fun e w' => e = .returned (.int .u64 x) ∧ w = w' := by
  have hc : ∀ W, (callFunc 35 #[.float .f64 x]).run Try.prog W = .ok (.value (.int .u64 x)) W := fun W => by
    rw [run_callFunc_extern Try.func35 (by kernel_rfl) (by kernel_rfl) (by kernel_rfl) (e := Extern.MathFloatBits.float64bits) (by kernel_rfl)]; rfl
  have ho := nan_order hx
  rw [h] at ho
  go_enter Try.func24, Try.ntmps24
  go_wp2
  go_ret
  exact ⟨rfl, rfl⟩
theorem word_nan (x : Nat) (w : World) (hx : x < 18446744073709551616) (h : nanB x = true) : Calls Try.prog 24 #[.float .f64 x] w fun e w' => e = .returned (.int .u64 9221120237041090560) ∧ w = w' := by
  have ho := nan_order hx
  rw [h] at ho
  go_enter Try.func24, Try.ntmps24
  go_wp2
  go_ret
  exact ⟨rfl, rfl⟩
/-- The NaN that an operation without an answer draws. -/
def drawnNaN (w : World) (q : Question) : Nat := q.cut (w.tape w.drawn q)
theorem nan_form (s r : Nat) (hs : s < 2) (hr : r < 4503599627370495) : nanB (s * 9223372036854775808 + 9218868437227405312 + 1 + r) = true ∧ s * 9223372036854775808 + 9218868437227405312 + 1 + r < 18446744073709551616 := by
  unfold nanB
  rcases (show s = 0 ∨ s = 1 by omega) with rfl | rfl
  · exact ⟨decide_eq_true (by omega), by omega⟩
  · exact ⟨decide_eq_true (by omega), by omega⟩
theorem drawnNaN_nan (w : World) (x y : Nat) : nanB (drawnNaN w (.nanBits .f64 x y)) = true ∧ drawnNaN w (.nanBits .f64 x y) < 18446744073709551616 :=
  nan_form (w.tape w.drawn (Question.nanBits FloatKind.f64 x y) % 2) (w.tape w.drawn (Question.nanBits FloatKind.f64 x y) / 2 % 4503599627370495) (Nat.mod_lt _ (by omega)) (Nat.mod_lt _ (by omega))
theorem run_float_nan (op : BinOp) (hop : op = .add ∨ op = .sub ∨ op = .mul ∨ op = .quo) (t : TypeId) (x y : Nat) (h : floatBits op .f64 x y = none) (w : World) :
    (binOp op t (.float .f64 x) (.float .f64 y)).run Try.prog w = .ok (.float .f64 (drawnNaN w (.nanBits .f64 x y))) (w.drewN 1) := by
  unfold floatBits at h
  rcases hop with rfl | rfl | rfl | rfl <;> simp only at h <;> simp [binOp, Op.floatArith, h, Question.forced, drawnNaN] <;> rfl
def inU64 (x : Int) : Bool := decide (0 ≤ x) && decide (x < 18446744073709551616)
theorem inU64_nat {x : Int} (h : inU64 x = true) : ∃ n : Nat, x = n ∧ n < 18446744073709551616 := by
  unfold inU64 at h
  simp only [Bool.and_eq_true, decide_eq_true_eq] at h
  exact ⟨x.toNat, by omega, by omega⟩
end Go.Proofs.Ytidhjpdcbmbicaa.G
