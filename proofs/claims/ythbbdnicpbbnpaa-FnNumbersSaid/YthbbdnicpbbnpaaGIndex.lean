/- The library's strings.IndexByte, as a plain function and its contract. No condition. -/
import Derived.Test.YthbbdnicpbbnpaaShelf
import Derived.Test.YthbbdnicpbbnpaaWWords
namespace Go.Proofs.Ythbbdnicpbbnpaa.G
open Go.RowKit Go.Proofs.YthbbdnicpbbnpaaW.PrintWords
def strings_IndexByte (a0 : ByteArray) (a1 : Int) : Option Int := some (Lib.indexByte a0.data.toList a1.toNat.toUInt8)
theorem strings_IndexByte_calls (a0 : ByteArray) (a1 : Int) (r : Int) (w : World) (h : strings_IndexByte a0 a1 = some r) :
    Calls Try.prog 73 #[.string a0, .int .u8 a1] w fun e w' => e = .returned (.int .i64 r) ∧ Drawn0 w w' := by
  obtain rfl := Option.some.inj h
  exact (Try.strings_IndexByte a0 a1 w).mono fun e w' ⟨he, hw⟩ => ⟨he, ⟨⟨0, hw⟩⟩⟩
end Go.Proofs.Ythbbdnicpbbnpaa.G
