/- At every two whole numbers of 64 bits the program's Wide and the reference's tell the same: the product's two halves. No condition but the statement's own. -/
import Derived.Test.YtfippnoadhhmbaaPFnExactWidex1
import Derived.Test.YtfippnoadhhmbaaCB
namespace Go.Proofs.Ytfippnoadhhmbaa.Pure
open Go.RowKit Go.Proofs.Ytfippnoadhhmbaa.PFnExactWide Go.Proofs.YtfippnoadhhmbaaW.PrintWords Go.Proofs.YtfippnoadhhmbaaW.PrintLast Go.Proofs.Ytfippnoadhhmbaa.CB
/-- The product out of its parts. -/
theorem wide_parts (a b : Int) : a * b = 18446744073709551616 * ((a / 4294967296) * (b / 4294967296)) + 4294967296 * ((a / 4294967296) * (b % 4294967296)) + 4294967296 * ((a % 4294967296) * (b / 4294967296)) + (a % 4294967296) * (b % 4294967296) := by
  have ea : a = 4294967296 * (a / 4294967296) + a % 4294967296 := by omega
  have eb : b = 4294967296 * (b / 4294967296) + b % 4294967296 := by omega
  generalize a / 4294967296 = p at *
  generalize a % 4294967296 = q at *
  generalize b / 4294967296 = u at *
  generalize b % 4294967296 = v at *
  subst ea eb
  grind
theorem spec_wide (a b : Nat) (ha : a < 18446744073709551616) (hb : b < 18446744073709551616) : spec_Wide.f (a : Int) (b : Int) = some ((a : Int) * b / 18446744073709551616, (a : Int) * b % 18446744073709551616) := by
  have hp := wide_parts a b
  unfold spec_Wide.f
  simp only [wu64, tdivN (show (0 : Int) ≤ a by omega), tdivN (show (0 : Int) ≤ b by omega), tmodN (show (0 : Int) ≤ a by omega), tmodN (show (0 : Int) ≤ b by omega)]
  have k1 : (a : Int) / 4294967296 % 18446744073709551616 = (a : Int) / 4294967296 := by omega
  have k2 : (b : Int) / 4294967296 % 18446744073709551616 = (b : Int) / 4294967296 := by omega
  rw [k1, k2]
  have m11 := mulB (x := (a : Int) / 4294967296) (y := (b : Int) / 4294967296) (by omega) (by omega) (by omega) (by omega)
  have m10 := mulB (x := (a : Int) / 4294967296) (y := (b : Int) % 4294967296) (by omega) (by omega) (by omega) (by omega)
  have m01 := mulB (x := (a : Int) % 4294967296) (y := (b : Int) / 4294967296) (by omega) (by omega) (by omega) (by omega)
  have m00 := mulB (x := (a : Int) % 4294967296) (y := (b : Int) % 4294967296) (by omega) (by omega) (by omega) (by omega)
  rw [hp]
  generalize ((a : Int) / 4294967296) * ((b : Int) / 4294967296) = p11 at *
  generalize ((a : Int) / 4294967296) * ((b : Int) % 4294967296) = p10 at *
  generalize ((a : Int) % 4294967296) * ((b : Int) / 4294967296) = p01 at *
  generalize ((a : Int) % 4294967296) * ((b : Int) % 4294967296) = p00 at *
  rw [tdivN (a := p00 % 18446744073709551616) (by omega)]
  generalize e1 : (p10 % 18446744073709551616 + p00 % 18446744073709551616 / 4294967296 % 18446744073709551616) % 18446744073709551616 = mid
  rw [tmodN (a := mid) (by omega), tdivN (a := mid) (by omega), tmodN (a := p00 % 18446744073709551616) (by omega)]
  generalize e2 : (p01 % 18446744073709551616 + mid % 4294967296) % 18446744073709551616 = other
  rw [tdivN (a := other) (by omega)]
  simp only [Option.some.injEq, Prod.mk.injEq]
  constructor <;> omega
theorem impl_wide (a b : Nat) (ha : a < 18446744073709551616) (hb : b < 18446744073709551616) : impl_Wide.f (a : Int) (b : Int) = some ((a : Int) * b / 18446744073709551616, (a : Int) * b % 18446744073709551616) := by
  have hp := wide_parts a b
  unfold impl_Wide.f bits_Mul64.f
  have an : ∀ x : Nat, x < 18446744073709551616 → Go.bits .and .u64 (x : Int) 4294967295 = (x : Int) % 4294967296 := by
    intro x hx
    have h1 := and_u64 x 4294967295 hx (by omega)
    rw [show x &&& 4294967295 = x % 4294967296 from mask x 32] at h1
    exact h1
  simp only [wu64, Option.bind_some]
  rw [an a ha, an b hb]
  have m11 := mulB (x := (a : Int) / 4294967296) (y := (b : Int) / 4294967296) (by omega) (by omega) (by omega) (by omega)
  have m10 := mulB (x := (a : Int) / 4294967296) (y := (b : Int) % 4294967296) (by omega) (by omega) (by omega) (by omega)
  have m01 := mulB (x := (a : Int) % 4294967296) (y := (b : Int) / 4294967296) (by omega) (by omega) (by omega) (by omega)
  have m00 := mulB (x := (a : Int) % 4294967296) (y := (b : Int) % 4294967296) (by omega) (by omega) (by omega) (by omega)
  rw [hp]
  generalize ((a : Int) / 4294967296) * ((b : Int) / 4294967296) = p11 at *
  generalize ((a : Int) / 4294967296) * ((b : Int) % 4294967296) = p10 at *
  generalize ((a : Int) % 4294967296) * ((b : Int) / 4294967296) = p01 at *
  generalize ((a : Int) % 4294967296) * ((b : Int) % 4294967296) = p00 at *
  rw [show p10 % 18446744073709551616 = p10 by omega, show p00 % 18446744073709551616 = p00 by omega, show p01 % 18446744073709551616 = p01 by omega, show p11 % 18446744073709551616 = p11 by omega]
  have e1 : (p10 + p00 / 4294967296) % 18446744073709551616 = p10 + p00 / 4294967296 := by omega
  rw [e1]
  generalize e2 : p10 + p00 / 4294967296 = mid
  obtain ⟨m, rfl⟩ : ∃ n : Nat, mid = n := ⟨mid.toNat, by omega⟩
  rw [an m (by omega)]
  simp only [Option.some.injEq, Prod.mk.injEq]
  refine ⟨?_, trivial⟩
  rw [show (p11 + (m : Int) / 4294967296) % 18446744073709551616 = p11 + (m : Int) / 4294967296 by omega, show ((m : Int) % 4294967296 + p01) % 18446744073709551616 = (m : Int) % 4294967296 + p01 by omega]
  generalize e3 : (m : Int) / 4294967296 = u
  generalize e4 : (m : Int) % 4294967296 = v
  rw [show (p11 + u + (v + p01) / 4294967296) % 18446744073709551616 = p11 + u + (v + p01) / 4294967296 by omega]
  omega
theorem FnExactWide : laws_FnExactWide.Pure := by
  intro a b ha hb
  obtain ⟨a0, a1⟩ := wfu64 ha
  obtain ⟨b0, b1⟩ := wfu64 hb
  obtain ⟨a, rfl⟩ : ∃ n : Nat, a = n := ⟨a.toNat, by omega⟩
  obtain ⟨b, rfl⟩ : ∃ n : Nat, b = n := ⟨b.toNat, by omega⟩
  unfold laws_FnExactWide.f
  rw [spec_wide a b (by omega) (by omega), impl_wide a b (by omega) (by omega)]
  simp
end Go.Proofs.Ytfippnoadhhmbaa.Pure
