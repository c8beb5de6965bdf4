/-
  No cell of these rows narrows 'for every input' (looked for: loops, veiled, ifaces, maps, wideKeys, modest, calm, conditions, laid).
  DERIVED. THE GIVEN ROWS OF THIS SEAT. 10 by the template 'for every input the law returns true; each argument reads behind the call as it read before'; 0 by the template 'total and deterministic' (their statements: YthbbdnicpbbnpaaTotals.lean).
  GIVEN WITH THE SEED: the statements are not yours to turn. If you find one false, say at which input.
  Laid BY PROGRAM, IN A SANDBOX (cutbox-rows.mjs): the forced cells as the released guide's own fill.sh prints them over the translation 9eb95bf03b1f96d8… (all of the seat's roots in one cut). By AI agents, Wed Nov 11 2026. No macro, syntax, notation, axiom, sorry.
-/
import Derived.Test.YthbbdnicpbbnpaaChecked
import GoSem.Claim
import GoSem.ClaimJoined
import GoSem.ClaimMapViews
import Derived.JoinedTies
import Derived.KernelRfl
namespace Go.Proofs.Ythbbdnicpbbnpaa
/- THE CELL 'sum', in the pinned program and in every row, IS THE sha256 OF THE DUMP (.gsa) THAT YthbbdnicpbbnpaaProg.lean LOADS. Nothing in Lean hashes anything: it is a label: what it is worth is what the hold of that sum in a sandbox is worth. -/
noncomputable def Try.pinned : Pinned := { name := "ythbbdnicpbbnpaa", sum := "9eb95bf03b1f96d8d8f62a8aed8086798809adf51c9b73683785d243de9287f1", checked := Try.checked }
namespace Rows
def none {H : Type} : Left H := { results := [], args := [] }

/-- 'laws.FnExactGreatMul': WHATEVER THE INPUT: true; the input reads as it did. -/
def fnExactGreatMulSpec : ChangeSpec := { name := "fnExactGreatMul", fn := fun _ => fun
  | [d1, d2] => { results := [.lit (.bool true)], args := [d1, d2] }
  | _ => none }
def fnExactGreatMulRow : OpenClaim := { program := "ythbbdnicpbbnpaa", sum := "9eb95bf03b1f96d8d8f62a8aed8086798809adf51c9b73683785d243de9287f1", func := "loop.example/g00115/laws.FnExactGreatMul", spec := "fnExactGreatMul", apart := false }
def FnExactGreatMulSaid : Prop := fnExactGreatMulRow.holds Try.pinned (OpenSpec.ofChange fnExactGreatMulSpec)

/-- ITS FALSE NEIGHBOUR: 'it returns false'. Refute it at one input. -/
def fnExactGreatMulWrong : ChangeSpec := { name := "fnExactGreatMul", fn := fun _ => fun
  | [d1, d2] => { results := [.lit (.bool false)], args := [d1, d2] }
  | _ => none }
def FnExactGreatMulWrongFalsely : Prop := fnExactGreatMulRow.holds Try.pinned (OpenSpec.ofChange fnExactGreatMulWrong)

/-- 'laws.FnExactGreatAdd': WHATEVER THE INPUT: true; the input reads as it did. -/
def fnExactGreatAddSpec : ChangeSpec := { name := "fnExactGreatAdd", fn := fun _ => fun
  | [d1, d2] => { results := [.lit (.bool true)], args := [d1, d2] }
  | _ => none }
def fnExactGreatAddRow : OpenClaim := { program := "ythbbdnicpbbnpaa", sum := "9eb95bf03b1f96d8d8f62a8aed8086798809adf51c9b73683785d243de9287f1", func := "loop.example/g00115/laws.FnExactGreatAdd", spec := "fnExactGreatAdd", apart := false }
def FnExactGreatAddSaid : Prop := fnExactGreatAddRow.holds Try.pinned (OpenSpec.ofChange fnExactGreatAddSpec)

/-- ITS FALSE NEIGHBOUR: 'it returns false'. Refute it at one input. -/
def fnExactGreatAddWrong : ChangeSpec := { name := "fnExactGreatAdd", fn := fun _ => fun
  | [d1, d2] => { results := [.lit (.bool false)], args := [d1, d2] }
  | _ => none }
def FnExactGreatAddWrongFalsely : Prop := fnExactGreatAddRow.holds Try.pinned (OpenSpec.ofChange fnExactGreatAddWrong)

/-- 'laws.FnExactGreatSub': WHATEVER THE INPUT: true; the input reads as it did. -/
def fnExactGreatSubSpec : ChangeSpec := { name := "fnExactGreatSub", fn := fun _ => fun
  | [d1, d2] => { results := [.lit (.bool true)], args := [d1, d2] }
  | _ => none }
def fnExactGreatSubRow : OpenClaim := { program := "ythbbdnicpbbnpaa", sum := "9eb95bf03b1f96d8d8f62a8aed8086798809adf51c9b73683785d243de9287f1", func := "loop.example/g00115/laws.FnExactGreatSub", spec := "fnExactGreatSub", apart := false }
def FnExactGreatSubSaid : Prop := fnExactGreatSubRow.holds Try.pinned (OpenSpec.ofChange fnExactGreatSubSpec)

/-- ITS FALSE NEIGHBOUR: 'it returns false'. Refute it at one input. -/
def fnExactGreatSubWrong : ChangeSpec := { name := "fnExactGreatSub", fn := fun _ => fun
  | [d1, d2] => { results := [.lit (.bool false)], args := [d1, d2] }
  | _ => none }
def FnExactGreatSubWrongFalsely : Prop := fnExactGreatSubRow.holds Try.pinned (OpenSpec.ofChange fnExactGreatSubWrong)

/-- 'laws.FnExactGreatPower': WHATEVER THE INPUT: true; the input reads as it did. -/
def fnExactGreatPowerSpec : ChangeSpec := { name := "fnExactGreatPower", fn := fun _ => fun
  | [d1, d2] => { results := [.lit (.bool true)], args := [d1, d2] }
  | _ => none }
def fnExactGreatPowerRow : OpenClaim := { program := "ythbbdnicpbbnpaa", sum := "9eb95bf03b1f96d8d8f62a8aed8086798809adf51c9b73683785d243de9287f1", func := "loop.example/g00115/laws.FnExactGreatPower", spec := "fnExactGreatPower", apart := false }
def FnExactGreatPowerSaid : Prop := fnExactGreatPowerRow.holds Try.pinned (OpenSpec.ofChange fnExactGreatPowerSpec)

/-- ITS FALSE NEIGHBOUR: 'it returns false'. Refute it at one input. -/
def fnExactGreatPowerWrong : ChangeSpec := { name := "fnExactGreatPower", fn := fun _ => fun
  | [d1, d2] => { results := [.lit (.bool false)], args := [d1, d2] }
  | _ => none }
def FnExactGreatPowerWrongFalsely : Prop := fnExactGreatPowerRow.holds Try.pinned (OpenSpec.ofChange fnExactGreatPowerWrong)

/-- 'laws.FnNumbers': WHATEVER THE INPUT: true; the input reads as it did. -/
def fnNumbersSpec : ChangeSpec := { name := "fnNumbers", fn := fun _ => fun
  | [d] => { results := [.lit (.bool true)], args := [d] }
  | _ => none }
def fnNumbersRow : OpenClaim := { program := "ythbbdnicpbbnpaa", sum := "9eb95bf03b1f96d8d8f62a8aed8086798809adf51c9b73683785d243de9287f1", func := "loop.example/g00115/laws.FnNumbers", spec := "fnNumbers", inPlace := ["internal/bytealg.IndexByteString"], apart := false }
def FnNumbersSaid : Prop := fnNumbersRow.holds Try.pinned (OpenSpec.ofChange fnNumbersSpec)

/-- ITS FALSE NEIGHBOUR: 'it returns false'. Refute it at one input. -/
def fnNumbersWrong : ChangeSpec := { name := "fnNumbers", fn := fun _ => fun
  | [d] => { results := [.lit (.bool false)], args := [d] }
  | _ => none }
def FnNumbersWrongFalsely : Prop := fnNumbersRow.holds Try.pinned (OpenSpec.ofChange fnNumbersWrong)

/-- 'laws.FnExactSameTree': WHATEVER THE INPUT: true; the input reads as it did. -/
def fnExactSameTreeSpec : ChangeSpec := { name := "fnExactSameTree", fn := fun _ => fun
  | [d1, d2] => { results := [.lit (.bool true)], args := [d1, d2] }
  | _ => none }
def fnExactSameTreeRow : OpenClaim := { program := "ythbbdnicpbbnpaa", sum := "9eb95bf03b1f96d8d8f62a8aed8086798809adf51c9b73683785d243de9287f1", func := "loop.example/g00115/laws.FnExactSameTree", spec := "fnExactSameTree", unfollowed := true, recurses := true, apart := false }
def FnExactSameTreeSaid : Prop := fnExactSameTreeRow.holds Try.pinned (OpenSpec.ofChange fnExactSameTreeSpec)

/-- ITS FALSE NEIGHBOUR: 'it returns false'. Refute it at one input. -/
def fnExactSameTreeWrong : ChangeSpec := { name := "fnExactSameTree", fn := fun _ => fun
  | [d1, d2] => { results := [.lit (.bool false)], args := [d1, d2] }
  | _ => none }
def FnExactSameTreeWrongFalsely : Prop := fnExactSameTreeRow.holds Try.pinned (OpenSpec.ofChange fnExactSameTreeWrong)

/-- 'laws.FnGreats': WHATEVER THE INPUT: true; the input reads as it did. -/
def fnGreatsSpec : ChangeSpec := { name := "fnGreats", fn := fun _ => fun
  | [d] => { results := [.lit (.bool true)], args := [d] }
  | _ => none }
def fnGreatsRow : OpenClaim := { program := "ythbbdnicpbbnpaa", sum := "9eb95bf03b1f96d8d8f62a8aed8086798809adf51c9b73683785d243de9287f1", func := "loop.example/g00115/laws.FnGreats", spec := "fnGreats", apart := false }
def FnGreatsSaid : Prop := fnGreatsRow.holds Try.pinned (OpenSpec.ofChange fnGreatsSpec)

/-- ITS FALSE NEIGHBOUR: 'it returns false'. Refute it at one input. -/
def fnGreatsWrong : ChangeSpec := { name := "fnGreats", fn := fun _ => fun
  | [d] => { results := [.lit (.bool false)], args := [d] }
  | _ => none }
def FnGreatsWrongFalsely : Prop := fnGreatsRow.holds Try.pinned (OpenSpec.ofChange fnGreatsWrong)

/-- 'laws.FnExactImageOk': WHATEVER THE INPUT: true; the input reads as it did. -/
def fnExactImageOkSpec : ChangeSpec := { name := "fnExactImageOk", fn := fun _ => fun
  | [d] => { results := [.lit (.bool true)], args := [d] }
  | _ => none }
def fnExactImageOkRow : OpenClaim := { program := "ythbbdnicpbbnpaa", sum := "9eb95bf03b1f96d8d8f62a8aed8086798809adf51c9b73683785d243de9287f1", func := "loop.example/g00115/laws.FnExactImageOk", spec := "fnExactImageOk", apart := false }
def FnExactImageOkSaid : Prop := fnExactImageOkRow.holds Try.pinned (OpenSpec.ofChange fnExactImageOkSpec)

/-- ITS FALSE NEIGHBOUR: 'it returns false'. Refute it at one input. -/
def fnExactImageOkWrong : ChangeSpec := { name := "fnExactImageOk", fn := fun _ => fun
  | [d] => { results := [.lit (.bool false)], args := [d] }
  | _ => none }
def FnExactImageOkWrongFalsely : Prop := fnExactImageOkRow.holds Try.pinned (OpenSpec.ofChange fnExactImageOkWrong)

/-- 'laws.FnExactCodeSize': WHATEVER THE INPUT: true; the input reads as it did. -/
def fnExactCodeSizeSpec : ChangeSpec := { name := "fnExactCodeSize", fn := fun _ => fun
  | [d] => { results := [.lit (.bool true)], args := [d] }
  | _ => none }
def fnExactCodeSizeRow : OpenClaim := { program := "ythbbdnicpbbnpaa", sum := "9eb95bf03b1f96d8d8f62a8aed8086798809adf51c9b73683785d243de9287f1", func := "loop.example/g00115/laws.FnExactCodeSize", spec := "fnExactCodeSize", apart := false }
def FnExactCodeSizeSaid : Prop := fnExactCodeSizeRow.holds Try.pinned (OpenSpec.ofChange fnExactCodeSizeSpec)

/-- ITS FALSE NEIGHBOUR: 'it returns false'. Refute it at one input. -/
def fnExactCodeSizeWrong : ChangeSpec := { name := "fnExactCodeSize", fn := fun _ => fun
  | [d] => { results := [.lit (.bool false)], args := [d] }
  | _ => none }
def FnExactCodeSizeWrongFalsely : Prop := fnExactCodeSizeRow.holds Try.pinned (OpenSpec.ofChange fnExactCodeSizeWrong)

/-- 'laws.FnWides': WHATEVER THE INPUT: true; the input reads as it did. -/
def fnWidesSpec : ChangeSpec := { name := "fnWides", fn := fun _ => fun
  | [d] => { results := [.lit (.bool true)], args := [d] }
  | _ => none }
def fnWidesRow : OpenClaim := { program := "ythbbdnicpbbnpaa", sum := "9eb95bf03b1f96d8d8f62a8aed8086798809adf51c9b73683785d243de9287f1", func := "loop.example/g00115/laws.FnWides", spec := "fnWides", apart := false }
def FnWidesSaid : Prop := fnWidesRow.holds Try.pinned (OpenSpec.ofChange fnWidesSpec)

/-- ITS FALSE NEIGHBOUR: 'it returns false'. Refute it at one input. -/
def fnWidesWrong : ChangeSpec := { name := "fnWides", fn := fun _ => fun
  | [d] => { results := [.lit (.bool false)], args := [d] }
  | _ => none }
def FnWidesWrongFalsely : Prop := fnWidesRow.holds Try.pinned (OpenSpec.ofChange fnWidesWrong)

/- THE SECOND FORM. 'bulk': how many values and letters a reading holds, each counted each time it is reached (what is shared counts as often as it is met; a slice's spare places count too). A statement '..UptoSaid' is the law's where the arguments, and the package variables that the reading takes, are together of bulk at most 1048576: NARROWER than '..Said'. Prove '..Said' where nothing that the law and all that it calls make is longer than what came in: it says more and counts as full. Else prove '..UptoSaid'. A law counts once. -/
mutual
def uptoBulk {H : Type} : DataW H → Nat
  | .lit (.string bytes) => bytes.length + 1
  | .lit _ => 1
  | .nil => 1
  | .ptr d => uptoBulk d + 1
  | .slice elems spare => uptoBulkAll elems + uptoBulkAll spare + 1
  | .agg parts => uptoBulkAll parts + 1
  | .iface _ d => uptoBulk d + 1
  | .map entries => uptoBulkEntries entries + 1
  | .held _ => 1
def uptoBulkAll {H : Type} : List (DataW H) → Nat
  | [] => 0
  | d :: r => uptoBulk d + uptoBulkAll r
def uptoBulkEntries {H : Type} : List (Lit × DataW H) → Nat
  | [] => 0
  | x :: r => uptoBulkEntry x + uptoBulkEntries r
def uptoBulkEntry {H : Type} : Lit × DataW H → Nat
  | (.string bytes, d) => bytes.length + uptoBulk d + 1
  | (_, d) => uptoBulk d + 1
 end
def uptoSmall : (H : Type) → List (DataW H) → Bool := fun _ ds => decide (uptoBulkAll ds ≤ 1048576)
def OpenSpec.upto (s : _root_.Go.ChangeSpec) : _root_.Go.OpenSpec := { _root_.Go.OpenSpec.ofChange s with cond := some uptoSmall }

/-- 'laws.FnExactGreatMul', WHERE WHAT IT READS IS OF BULK AT MOST 1048576: true; the input reads as it did. -/
def fnExactGreatMulUptoRow : OpenClaim := { program := "ythbbdnicpbbnpaa", sum := "9eb95bf03b1f96d8d8f62a8aed8086798809adf51c9b73683785d243de9287f1", func := "loop.example/g00115/laws.FnExactGreatMul", spec := "fnExactGreatMul", apart := false, narrowed := true }
def FnExactGreatMulUptoSaid : Prop := fnExactGreatMulUptoRow.holds Try.pinned (OpenSpec.upto fnExactGreatMulSpec)

/-- 'laws.FnExactGreatAdd', WHERE WHAT IT READS IS OF BULK AT MOST 1048576: true; the input reads as it did. -/
def fnExactGreatAddUptoRow : OpenClaim := { program := "ythbbdnicpbbnpaa", sum := "9eb95bf03b1f96d8d8f62a8aed8086798809adf51c9b73683785d243de9287f1", func := "loop.example/g00115/laws.FnExactGreatAdd", spec := "fnExactGreatAdd", apart := false, narrowed := true }
def FnExactGreatAddUptoSaid : Prop := fnExactGreatAddUptoRow.holds Try.pinned (OpenSpec.upto fnExactGreatAddSpec)

/-- 'laws.FnExactGreatSub', WHERE WHAT IT READS IS OF BULK AT MOST 1048576: true; the input reads as it did. -/
def fnExactGreatSubUptoRow : OpenClaim := { program := "ythbbdnicpbbnpaa", sum := "9eb95bf03b1f96d8d8f62a8aed8086798809adf51c9b73683785d243de9287f1", func := "loop.example/g00115/laws.FnExactGreatSub", spec := "fnExactGreatSub", apart := false, narrowed := true }
def FnExactGreatSubUptoSaid : Prop := fnExactGreatSubUptoRow.holds Try.pinned (OpenSpec.upto fnExactGreatSubSpec)

/-- 'laws.FnExactGreatPower', WHERE WHAT IT READS IS OF BULK AT MOST 1048576: true; the input reads as it did. -/
def fnExactGreatPowerUptoRow : OpenClaim := { program := "ythbbdnicpbbnpaa", sum := "9eb95bf03b1f96d8d8f62a8aed8086798809adf51c9b73683785d243de9287f1", func := "loop.example/g00115/laws.FnExactGreatPower", spec := "fnExactGreatPower", apart := false, narrowed := true }
def FnExactGreatPowerUptoSaid : Prop := fnExactGreatPowerUptoRow.holds Try.pinned (OpenSpec.upto fnExactGreatPowerSpec)

/-- 'laws.FnNumbers', WHERE WHAT IT READS IS OF BULK AT MOST 1048576: true; the input reads as it did. -/
def fnNumbersUptoRow : OpenClaim := { program := "ythbbdnicpbbnpaa", sum := "9eb95bf03b1f96d8d8f62a8aed8086798809adf51c9b73683785d243de9287f1", func := "loop.example/g00115/laws.FnNumbers", spec := "fnNumbers", inPlace := ["internal/bytealg.IndexByteString"], apart := false, narrowed := true }
def FnNumbersUptoSaid : Prop := fnNumbersUptoRow.holds Try.pinned (OpenSpec.upto fnNumbersSpec)

/-- 'laws.FnExactSameTree', WHERE WHAT IT READS IS OF BULK AT MOST 1048576: true; the input reads as it did. -/
def fnExactSameTreeUptoRow : OpenClaim := { program := "ythbbdnicpbbnpaa", sum := "9eb95bf03b1f96d8d8f62a8aed8086798809adf51c9b73683785d243de9287f1", func := "loop.example/g00115/laws.FnExactSameTree", spec := "fnExactSameTree", unfollowed := true, recurses := true, apart := false, narrowed := true }
def FnExactSameTreeUptoSaid : Prop := fnExactSameTreeUptoRow.holds Try.pinned (OpenSpec.upto fnExactSameTreeSpec)

/-- 'laws.FnGreats', WHERE WHAT IT READS IS OF BULK AT MOST 1048576: true; the input reads as it did. -/
def fnGreatsUptoRow : OpenClaim := { program := "ythbbdnicpbbnpaa", sum := "9eb95bf03b1f96d8d8f62a8aed8086798809adf51c9b73683785d243de9287f1", func := "loop.example/g00115/laws.FnGreats", spec := "fnGreats", apart := false, narrowed := true }
def FnGreatsUptoSaid : Prop := fnGreatsUptoRow.holds Try.pinned (OpenSpec.upto fnGreatsSpec)

/-- 'laws.FnExactImageOk', WHERE WHAT IT READS IS OF BULK AT MOST 1048576: true; the input reads as it did. -/
def fnExactImageOkUptoRow : OpenClaim := { program := "ythbbdnicpbbnpaa", sum := "9eb95bf03b1f96d8d8f62a8aed8086798809adf51c9b73683785d243de9287f1", func := "loop.example/g00115/laws.FnExactImageOk", spec := "fnExactImageOk", apart := false, narrowed := true }
def FnExactImageOkUptoSaid : Prop := fnExactImageOkUptoRow.holds Try.pinned (OpenSpec.upto fnExactImageOkSpec)

/-- 'laws.FnExactCodeSize', WHERE WHAT IT READS IS OF BULK AT MOST 1048576: true; the input reads as it did. -/
def fnExactCodeSizeUptoRow : OpenClaim := { program := "ythbbdnicpbbnpaa", sum := "9eb95bf03b1f96d8d8f62a8aed8086798809adf51c9b73683785d243de9287f1", func := "loop.example/g00115/laws.FnExactCodeSize", spec := "fnExactCodeSize", apart := false, narrowed := true }
def FnExactCodeSizeUptoSaid : Prop := fnExactCodeSizeUptoRow.holds Try.pinned (OpenSpec.upto fnExactCodeSizeSpec)

/-- 'laws.FnWides', WHERE WHAT IT READS IS OF BULK AT MOST 1048576: true; the input reads as it did. -/
def fnWidesUptoRow : OpenClaim := { program := "ythbbdnicpbbnpaa", sum := "9eb95bf03b1f96d8d8f62a8aed8086798809adf51c9b73683785d243de9287f1", func := "loop.example/g00115/laws.FnWides", spec := "fnWides", apart := false, narrowed := true }
def FnWidesUptoSaid : Prop := fnWidesUptoRow.holds Try.pinned (OpenSpec.upto fnWidesSpec)

end Rows
end Go.Proofs.Ythbbdnicpbbnpaa
