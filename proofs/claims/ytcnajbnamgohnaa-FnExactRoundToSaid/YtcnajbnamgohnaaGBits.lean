/- The library's bits.Len64, as a plain function and its contract. The number is one of 64 bits. -/
import Derived.Test.YtcnajbnamgohnaaShelf
import Derived.Test.YtcnajbnamgohnaaWWords
namespace Go.Proofs.Ytcnajbnamgohnaa.G
open Go.RowKit Go.Proofs.YtcnajbnamgohnaaW.PrintWords
def bits_Len64 (a0 : Int) : Option Int := if 0 ≤ a0 ∧ a0 ≤ 18446744073709551615 then some (Lib.bitLen a0.toNat : Int) else none
theorem bits_Len64_calls (a0 : Int) (r : Int) (w : World) (h : bits_Len64 a0 = some r) :
    Calls Try.prog 65 #[.int .u64 a0] w fun e w' => e = .returned (.int .i64 r) ∧ Drawn0 w w' := by
  unfold bits_Len64 at h
  by_cases hb : 0 ≤ a0 ∧ a0 ≤ 18446744073709551615
  · rw [if_pos hb] at h
    obtain rfl := Option.some.inj h
    exact (Try.bits_Len64 a0 w hb.1 hb.2).mono fun e w' ⟨he, hw⟩ => ⟨he, ⟨⟨0, hw⟩⟩⟩
  · rw [if_neg hb] at h
    cases h
end Go.Proofs.Ytcnajbnamgohnaa.G
