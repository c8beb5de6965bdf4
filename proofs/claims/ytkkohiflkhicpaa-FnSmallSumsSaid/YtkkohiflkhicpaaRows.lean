/-
  No cell of these rows narrows 'for every input' (looked for: loops, veiled, ifaces, maps, wideKeys, modest, calm, conditions, laid).
  DERIVED. THE GIVEN ROWS OF THIS SEAT. 12 by the template 'for every input the law returns true; each argument reads behind the call as it read before'; 0 by the template 'total and deterministic' (their statements: YtkkohiflkhicpaaTotals.lean).
  GIVEN WITH THE SEED: the statements are not yours to turn. If you find one false, say at which input.
  Laid BY PROGRAM, IN A SANDBOX (cutbox-rows.mjs): the forced cells as the released guide's own fill.sh prints them over the translation 8d7e8e0644538bab… (all of the seat's roots in one cut). By AI agents, Wed Nov 11 2026. No macro, syntax, notation, axiom, sorry.
-/
import Derived.Test.YtkkohiflkhicpaaChecked
import GoSem.Claim
import GoSem.ClaimJoined
import GoSem.ClaimMapViews
import Derived.JoinedTies
import Derived.KernelRfl
namespace Go.Proofs.Ytkkohiflkhicpaa
/- THE CELL 'sum', in the pinned program and in every row, IS THE sha256 OF THE DUMP (.gsa) THAT YtkkohiflkhicpaaProg.lean LOADS. Nothing in Lean hashes anything: it is a label: what it is worth is what the hold of that sum in a sandbox is worth. -/
noncomputable def Try.pinned : Pinned := { name := "ytkkohiflkhicpaa", sum := "8d7e8e0644538bab2cde4273f275bf014237aad15000d123e9ddd503a0306598", checked := Try.checked }
namespace Rows
def none {H : Type} : Left H := { results := [], args := [] }

/-- 'laws.FnExactEqual': WHATEVER THE INPUT: true; the input reads as it did. -/
def fnExactEqualSpec : ChangeSpec := { name := "fnExactEqual", fn := fun _ => fun
  | [d1, d2] => { results := [.lit (.bool true)], args := [d1, d2] }
  | _ => none }
def fnExactEqualRow : OpenClaim := { program := "ytkkohiflkhicpaa", sum := "8d7e8e0644538bab2cde4273f275bf014237aad15000d123e9ddd503a0306598", func := "loop.example/g00115/laws.FnExactEqual", spec := "fnExactEqual", inPlace := ["math.Float64frombits"], apart := false }
def FnExactEqualSaid : Prop := fnExactEqualRow.holds Try.pinned (OpenSpec.ofChange fnExactEqualSpec)

/-- ITS FALSE NEIGHBOUR: 'it returns false'. Refute it at one input. -/
def fnExactEqualWrong : ChangeSpec := { name := "fnExactEqual", fn := fun _ => fun
  | [d1, d2] => { results := [.lit (.bool false)], args := [d1, d2] }
  | _ => none }
def FnExactEqualWrongFalsely : Prop := fnExactEqualRow.holds Try.pinned (OpenSpec.ofChange fnExactEqualWrong)

/-- 'laws.FnExactLess': WHATEVER THE INPUT: true; the input reads as it did. -/
def fnExactLessSpec : ChangeSpec := { name := "fnExactLess", fn := fun _ => fun
  | [d1, d2] => { results := [.lit (.bool true)], args := [d1, d2] }
  | _ => none }
def fnExactLessRow : OpenClaim := { program := "ytkkohiflkhicpaa", sum := "8d7e8e0644538bab2cde4273f275bf014237aad15000d123e9ddd503a0306598", func := "loop.example/g00115/laws.FnExactLess", spec := "fnExactLess", inPlace := ["math.Float64frombits"], apart := false }
def FnExactLessSaid : Prop := fnExactLessRow.holds Try.pinned (OpenSpec.ofChange fnExactLessSpec)

/-- ITS FALSE NEIGHBOUR: 'it returns false'. Refute it at one input. -/
def fnExactLessWrong : ChangeSpec := { name := "fnExactLess", fn := fun _ => fun
  | [d1, d2] => { results := [.lit (.bool false)], args := [d1, d2] }
  | _ => none }
def FnExactLessWrongFalsely : Prop := fnExactLessRow.holds Try.pinned (OpenSpec.ofChange fnExactLessWrong)

/-- 'laws.FnExactFromInt': WHATEVER THE INPUT: true; the input reads as it did. -/
def fnExactFromIntSpec : ChangeSpec := { name := "fnExactFromInt", fn := fun _ => fun
  | [d] => { results := [.lit (.bool true)], args := [d] }
  | _ => none }
def fnExactFromIntRow : OpenClaim := { program := "ytkkohiflkhicpaa", sum := "8d7e8e0644538bab2cde4273f275bf014237aad15000d123e9ddd503a0306598", func := "loop.example/g00115/laws.FnExactFromInt", spec := "fnExactFromInt", inPlace := ["math.Float64bits"], apart := false }
def FnExactFromIntSaid : Prop := fnExactFromIntRow.holds Try.pinned (OpenSpec.ofChange fnExactFromIntSpec)

/-- ITS FALSE NEIGHBOUR: 'it returns false'. Refute it at one input. -/
def fnExactFromIntWrong : ChangeSpec := { name := "fnExactFromInt", fn := fun _ => fun
  | [d] => { results := [.lit (.bool false)], args := [d] }
  | _ => none }
def FnExactFromIntWrongFalsely : Prop := fnExactFromIntRow.holds Try.pinned (OpenSpec.ofChange fnExactFromIntWrong)

/-- 'laws.FnWholes': WHATEVER THE INPUT: true; the input reads as it did. -/
def fnWholesSpec : ChangeSpec := { name := "fnWholes", fn := fun _ => fun
  | [d] => { results := [.lit (.bool true)], args := [d] }
  | _ => none }
def fnWholesRow : OpenClaim := { program := "ytkkohiflkhicpaa", sum := "8d7e8e0644538bab2cde4273f275bf014237aad15000d123e9ddd503a0306598", func := "loop.example/g00115/laws.FnWholes", spec := "fnWholes", inPlace := ["math.Float64bits", "math.Float64frombits"], apart := false }
def FnWholesSaid : Prop := fnWholesRow.holds Try.pinned (OpenSpec.ofChange fnWholesSpec)

/-- ITS FALSE NEIGHBOUR: 'it returns false'. Refute it at one input. -/
def fnWholesWrong : ChangeSpec := { name := "fnWholes", fn := fun _ => fun
  | [d] => { results := [.lit (.bool false)], args := [d] }
  | _ => none }
def FnWholesWrongFalsely : Prop := fnWholesRow.holds Try.pinned (OpenSpec.ofChange fnWholesWrong)

/-- 'laws.FnExactMul': WHATEVER THE INPUT: true; the input reads as it did. -/
def fnExactMulSpec : ChangeSpec := { name := "fnExactMul", fn := fun _ => fun
  | [d1, d2] => { results := [.lit (.bool true)], args := [d1, d2] }
  | _ => none }
def fnExactMulRow : OpenClaim := { program := "ytkkohiflkhicpaa", sum := "8d7e8e0644538bab2cde4273f275bf014237aad15000d123e9ddd503a0306598", func := "loop.example/g00115/laws.FnExactMul", spec := "fnExactMul", inPlace := ["math.Float64frombits", "math.Float64bits"], apart := false }
def FnExactMulSaid : Prop := fnExactMulRow.holds Try.pinned (OpenSpec.ofChange fnExactMulSpec)

/-- ITS FALSE NEIGHBOUR: 'it returns false'. Refute it at one input. -/
def fnExactMulWrong : ChangeSpec := { name := "fnExactMul", fn := fun _ => fun
  | [d1, d2] => { results := [.lit (.bool false)], args := [d1, d2] }
  | _ => none }
def FnExactMulWrongFalsely : Prop := fnExactMulRow.holds Try.pinned (OpenSpec.ofChange fnExactMulWrong)

/-- 'laws.FnSmallSums': WHATEVER THE INPUT: true; the input reads as it did. -/
def fnSmallSumsSpec : ChangeSpec := { name := "fnSmallSums", fn := fun _ => fun
  | [d] => { results := [.lit (.bool true)], args := [d] }
  | _ => none }
def fnSmallSumsRow : OpenClaim := { program := "ytkkohiflkhicpaa", sum := "8d7e8e0644538bab2cde4273f275bf014237aad15000d123e9ddd503a0306598", func := "loop.example/g00115/laws.FnSmallSums", spec := "fnSmallSums", inPlace := ["math.Float64frombits", "math.Float64bits"], apart := false }
def FnSmallSumsSaid : Prop := fnSmallSumsRow.holds Try.pinned (OpenSpec.ofChange fnSmallSumsSpec)

/-- ITS FALSE NEIGHBOUR: 'it returns false'. Refute it at one input. -/
def fnSmallSumsWrong : ChangeSpec := { name := "fnSmallSums", fn := fun _ => fun
  | [d] => { results := [.lit (.bool false)], args := [d] }
  | _ => none }
def FnSmallSumsWrongFalsely : Prop := fnSmallSumsRow.holds Try.pinned (OpenSpec.ofChange fnSmallSumsWrong)

/-- 'laws.FnExactDiv': WHATEVER THE INPUT: true; the input reads as it did. -/
def fnExactDivSpec : ChangeSpec := { name := "fnExactDiv", fn := fun _ => fun
  | [d1, d2] => { results := [.lit (.bool true)], args := [d1, d2] }
  | _ => none }
def fnExactDivRow : OpenClaim := { program := "ytkkohiflkhicpaa", sum := "8d7e8e0644538bab2cde4273f275bf014237aad15000d123e9ddd503a0306598", func := "loop.example/g00115/laws.FnExactDiv", spec := "fnExactDiv", inPlace := ["math.Float64frombits", "math.Float64bits"], apart := false }
def FnExactDivSaid : Prop := fnExactDivRow.holds Try.pinned (OpenSpec.ofChange fnExactDivSpec)

/-- ITS FALSE NEIGHBOUR: 'it returns false'. Refute it at one input. -/
def fnExactDivWrong : ChangeSpec := { name := "fnExactDiv", fn := fun _ => fun
  | [d1, d2] => { results := [.lit (.bool false)], args := [d1, d2] }
  | _ => none }
def FnExactDivWrongFalsely : Prop := fnExactDivRow.holds Try.pinned (OpenSpec.ofChange fnExactDivWrong)

/-- 'laws.FnExactAdd': WHATEVER THE INPUT: true; the input reads as it did. -/
def fnExactAddSpec : ChangeSpec := { name := "fnExactAdd", fn := fun _ => fun
  | [d1, d2] => { results := [.lit (.bool true)], args := [d1, d2] }
  | _ => none }
def fnExactAddRow : OpenClaim := { program := "ytkkohiflkhicpaa", sum := "8d7e8e0644538bab2cde4273f275bf014237aad15000d123e9ddd503a0306598", func := "loop.example/g00115/laws.FnExactAdd", spec := "fnExactAdd", inPlace := ["math.Float64frombits", "math.Float64bits"], apart := false }
def FnExactAddSaid : Prop := fnExactAddRow.holds Try.pinned (OpenSpec.ofChange fnExactAddSpec)

/-- ITS FALSE NEIGHBOUR: 'it returns false'. Refute it at one input. -/
def fnExactAddWrong : ChangeSpec := { name := "fnExactAdd", fn := fun _ => fun
  | [d1, d2] => { results := [.lit (.bool false)], args := [d1, d2] }
  | _ => none }
def FnExactAddWrongFalsely : Prop := fnExactAddRow.holds Try.pinned (OpenSpec.ofChange fnExactAddWrong)

/-- 'laws.FnOrder': WHATEVER THE INPUT: true; the input reads as it did. -/
def fnOrderSpec : ChangeSpec := { name := "fnOrder", fn := fun _ => fun
  | [d] => { results := [.lit (.bool true)], args := [d] }
  | _ => none }
def fnOrderRow : OpenClaim := { program := "ytkkohiflkhicpaa", sum := "8d7e8e0644538bab2cde4273f275bf014237aad15000d123e9ddd503a0306598", func := "loop.example/g00115/laws.FnOrder", spec := "fnOrder", inPlace := ["math.Float64frombits"], apart := false }
def FnOrderSaid : Prop := fnOrderRow.holds Try.pinned (OpenSpec.ofChange fnOrderSpec)

/-- ITS FALSE NEIGHBOUR: 'it returns false'. Refute it at one input. -/
def fnOrderWrong : ChangeSpec := { name := "fnOrder", fn := fun _ => fun
  | [d] => { results := [.lit (.bool false)], args := [d] }
  | _ => none }
def FnOrderWrongFalsely : Prop := fnOrderRow.holds Try.pinned (OpenSpec.ofChange fnOrderWrong)

/-- 'laws.FnExactSub': WHATEVER THE INPUT: true; the input reads as it did. -/
def fnExactSubSpec : ChangeSpec := { name := "fnExactSub", fn := fun _ => fun
  | [d1, d2] => { results := [.lit (.bool true)], args := [d1, d2] }
  | _ => none }
def fnExactSubRow : OpenClaim := { program := "ytkkohiflkhicpaa", sum := "8d7e8e0644538bab2cde4273f275bf014237aad15000d123e9ddd503a0306598", func := "loop.example/g00115/laws.FnExactSub", spec := "fnExactSub", inPlace := ["math.Float64frombits", "math.Float64bits"], apart := false }
def FnExactSubSaid : Prop := fnExactSubRow.holds Try.pinned (OpenSpec.ofChange fnExactSubSpec)

/-- ITS FALSE NEIGHBOUR: 'it returns false'. Refute it at one input. -/
def fnExactSubWrong : ChangeSpec := { name := "fnExactSub", fn := fun _ => fun
  | [d1, d2] => { results := [.lit (.bool false)], args := [d1, d2] }
  | _ => none }
def FnExactSubWrongFalsely : Prop := fnExactSubRow.holds Try.pinned (OpenSpec.ofChange fnExactSubWrong)

/-- 'laws.FnProducts': WHATEVER THE INPUT: true; the input reads as it did. -/
def fnProductsSpec : ChangeSpec := { name := "fnProducts", fn := fun _ => fun
  | [d] => { results := [.lit (.bool true)], args := [d] }
  | _ => none }
def fnProductsRow : OpenClaim := { program := "ytkkohiflkhicpaa", sum := "8d7e8e0644538bab2cde4273f275bf014237aad15000d123e9ddd503a0306598", func := "loop.example/g00115/laws.FnProducts", spec := "fnProducts", inPlace := ["math.Float64frombits", "math.Float64bits"], apart := false }
def FnProductsSaid : Prop := fnProductsRow.holds Try.pinned (OpenSpec.ofChange fnProductsSpec)

/-- ITS FALSE NEIGHBOUR: 'it returns false'. Refute it at one input. -/
def fnProductsWrong : ChangeSpec := { name := "fnProducts", fn := fun _ => fun
  | [d] => { results := [.lit (.bool false)], args := [d] }
  | _ => none }
def FnProductsWrongFalsely : Prop := fnProductsRow.holds Try.pinned (OpenSpec.ofChange fnProductsWrong)

/-- 'laws.FnExactSqrt': WHATEVER THE INPUT: true; the input reads as it did. -/
def fnExactSqrtSpec : ChangeSpec := { name := "fnExactSqrt", fn := fun _ => fun
  | [d] => { results := [.lit (.bool true)], args := [d] }
  | _ => none }
def fnExactSqrtRow : OpenClaim := { program := "ytkkohiflkhicpaa", sum := "8d7e8e0644538bab2cde4273f275bf014237aad15000d123e9ddd503a0306598", func := "loop.example/g00115/laws.FnExactSqrt", spec := "fnExactSqrt", inPlace := ["math.Float64frombits", "math.sqrt", "math.Float64bits"], apart := false }
def FnExactSqrtSaid : Prop := fnExactSqrtRow.holds Try.pinned (OpenSpec.ofChange fnExactSqrtSpec)

/-- ITS FALSE NEIGHBOUR: 'it returns false'. Refute it at one input. -/
def fnExactSqrtWrong : ChangeSpec := { name := "fnExactSqrt", fn := fun _ => fun
  | [d] => { results := [.lit (.bool false)], args := [d] }
  | _ => none }
def FnExactSqrtWrongFalsely : Prop := fnExactSqrtRow.holds Try.pinned (OpenSpec.ofChange fnExactSqrtWrong)

/- THE SECOND FORM. 'bulk': how many values and letters a reading holds, each counted each time it is reached (what is shared counts as often as it is met; a slice's spare places count too). A statement '..UptoSaid' is the law's where the arguments, and the package variables that the reading takes, are together of bulk at most 1048576: NARROWER than '..Said'. Prove '..Said' where nothing that the law and all that it calls make is longer than what came in: it says more and counts as full. Else prove '..UptoSaid'. A law counts once. -/
mutual
def uptoBulk {H : Type} : DataW H → Nat
  | .lit (.string bytes) => bytes.length + 1
  | .lit _ => 1
  | .nil => 1
  | .ptr d => uptoBulk d + 1
  | .slice elems spare => uptoBulkAll elems + uptoBulkAll spare + 1
  | .agg parts => uptoBulkAll parts + 1
  | .iface _ d => uptoBulk d + 1
  | .map entries => uptoBulkEntries entries + 1
  | .held _ => 1
def uptoBulkAll {H : Type} : List (DataW H) → Nat
  | [] => 0
  | d :: r => uptoBulk d + uptoBulkAll r
def uptoBulkEntries {H : Type} : List (Lit × DataW H) → Nat
  | [] => 0
  | x :: r => uptoBulkEntry x + uptoBulkEntries r
def uptoBulkEntry {H : Type} : Lit × DataW H → Nat
  | (.string bytes, d) => bytes.length + uptoBulk d + 1
  | (_, d) => uptoBulk d + 1
 end
def uptoSmall : (H : Type) → List (DataW H) → Bool := fun _ ds => decide (uptoBulkAll ds ≤ 1048576)
def OpenSpec.upto (s : _root_.Go.ChangeSpec) : _root_.Go.OpenSpec := { _root_.Go.OpenSpec.ofChange s with cond := some uptoSmall }

/-- 'laws.FnExactEqual', WHERE WHAT IT READS IS OF BULK AT MOST 1048576: true; the input reads as it did. -/
def fnExactEqualUptoRow : OpenClaim := { program := "ytkkohiflkhicpaa", sum := "8d7e8e0644538bab2cde4273f275bf014237aad15000d123e9ddd503a0306598", func := "loop.example/g00115/laws.FnExactEqual", spec := "fnExactEqual", inPlace := ["math.Float64frombits"], apart := false, narrowed := true }
def FnExactEqualUptoSaid : Prop := fnExactEqualUptoRow.holds Try.pinned (OpenSpec.upto fnExactEqualSpec)

/-- 'laws.FnExactLess', WHERE WHAT IT READS IS OF BULK AT MOST 1048576: true; the input reads as it did. -/
def fnExactLessUptoRow : OpenClaim := { program := "ytkkohiflkhicpaa", sum := "8d7e8e0644538bab2cde4273f275bf014237aad15000d123e9ddd503a0306598", func := "loop.example/g00115/laws.FnExactLess", spec := "fnExactLess", inPlace := ["math.Float64frombits"], apart := false, narrowed := true }
def FnExactLessUptoSaid : Prop := fnExactLessUptoRow.holds Try.pinned (OpenSpec.upto fnExactLessSpec)

/-- 'laws.FnExactFromInt', WHERE WHAT IT READS IS OF BULK AT MOST 1048576: true; the input reads as it did. -/
def fnExactFromIntUptoRow : OpenClaim := { program := "ytkkohiflkhicpaa", sum := "8d7e8e0644538bab2cde4273f275bf014237aad15000d123e9ddd503a0306598", func := "loop.example/g00115/laws.FnExactFromInt", spec := "fnExactFromInt", inPlace := ["math.Float64bits"], apart := false, narrowed := true }
def FnExactFromIntUptoSaid : Prop := fnExactFromIntUptoRow.holds Try.pinned (OpenSpec.upto fnExactFromIntSpec)

/-- 'laws.FnWholes', WHERE WHAT IT READS IS OF BULK AT MOST 1048576: true; the input reads as it did. -/
def fnWholesUptoRow : OpenClaim := { program := "ytkkohiflkhicpaa", sum := "8d7e8e0644538bab2cde4273f275bf014237aad15000d123e9ddd503a0306598", func := "loop.example/g00115/laws.FnWholes", spec := "fnWholes", inPlace := ["math.Float64bits", "math.Float64frombits"], apart := false, narrowed := true }
def FnWholesUptoSaid : Prop := fnWholesUptoRow.holds Try.pinned (OpenSpec.upto fnWholesSpec)

/-- 'laws.FnExactMul', WHERE WHAT IT READS IS OF BULK AT MOST 1048576: true; the input reads as it did. -/
def fnExactMulUptoRow : OpenClaim := { program := "ytkkohiflkhicpaa", sum := "8d7e8e0644538bab2cde4273f275bf014237aad15000d123e9ddd503a0306598", func := "loop.example/g00115/laws.FnExactMul", spec := "fnExactMul", inPlace := ["math.Float64frombits", "math.Float64bits"], apart := false, narrowed := true }
def FnExactMulUptoSaid : Prop := fnExactMulUptoRow.holds Try.pinned (OpenSpec.upto fnExactMulSpec)

/-- 'laws.FnSmallSums', WHERE WHAT IT READS IS OF BULK AT MOST 1048576: true; the input reads as it did. -/
def fnSmallSumsUptoRow : OpenClaim := { program := "ytkkohiflkhicpaa", sum := "8d7e8e0644538bab2cde4273f275bf014237aad15000d123e9ddd503a0306598", func := "loop.example/g00115/laws.FnSmallSums", spec := "fnSmallSums", inPlace := ["math.Float64frombits", "math.Float64bits"], apart := false, narrowed := true }
def FnSmallSumsUptoSaid : Prop := fnSmallSumsUptoRow.holds Try.pinned (OpenSpec.upto fnSmallSumsSpec)

/-- 'laws.FnExactDiv', WHERE WHAT IT READS IS OF BULK AT MOST 1048576: true; the input reads as it did. -/
def fnExactDivUptoRow : OpenClaim := { program := "ytkkohiflkhicpaa", sum := "8d7e8e0644538bab2cde4273f275bf014237aad15000d123e9ddd503a0306598", func := "loop.example/g00115/laws.FnExactDiv", spec := "fnExactDiv", inPlace := ["math.Float64frombits", "math.Float64bits"], apart := false, narrowed := true }
def FnExactDivUptoSaid : Prop := fnExactDivUptoRow.holds Try.pinned (OpenSpec.upto fnExactDivSpec)

/-- 'laws.FnExactAdd', WHERE WHAT IT READS IS OF BULK AT MOST 1048576: true; the input reads as it did. -/
def fnExactAddUptoRow : OpenClaim := { program := "ytkkohiflkhicpaa", sum := "8d7e8e0644538bab2cde4273f275bf014237aad15000d123e9ddd503a0306598", func := "loop.example/g00115/laws.FnExactAdd", spec := "fnExactAdd", inPlace := ["math.Float64frombits", "math.Float64bits"], apart := false, narrowed := true }
def FnExactAddUptoSaid : Prop := fnExactAddUptoRow.holds Try.pinned (OpenSpec.upto fnExactAddSpec)

/-- 'laws.FnOrder', WHERE WHAT IT READS IS OF BULK AT MOST 1048576: true; the input reads as it did. -/
def fnOrderUptoRow : OpenClaim := { program := "ytkkohiflkhicpaa", sum := "8d7e8e0644538bab2cde4273f275bf014237aad15000d123e9ddd503a0306598", func := "loop.example/g00115/laws.FnOrder", spec := "fnOrder", inPlace := ["math.Float64frombits"], apart := false, narrowed := true }
def FnOrderUptoSaid : Prop := fnOrderUptoRow.holds Try.pinned (OpenSpec.upto fnOrderSpec)

/-- 'laws.FnExactSub', WHERE WHAT IT READS IS OF BULK AT MOST 1048576: true; the input reads as it did. -/
def fnExactSubUptoRow : OpenClaim := { program := "ytkkohiflkhicpaa", sum := "8d7e8e0644538bab2cde4273f275bf014237aad15000d123e9ddd503a0306598", func := "loop.example/g00115/laws.FnExactSub", spec := "fnExactSub", inPlace := ["math.Float64frombits", "math.Float64bits"], apart := false, narrowed := true }
def FnExactSubUptoSaid : Prop := fnExactSubUptoRow.holds Try.pinned (OpenSpec.upto fnExactSubSpec)

/-- 'laws.FnProducts', WHERE WHAT IT READS IS OF BULK AT MOST 1048576: true; the input reads as it did. -/
def fnProductsUptoRow : OpenClaim := { program := "ytkkohiflkhicpaa", sum := "8d7e8e0644538bab2cde4273f275bf014237aad15000d123e9ddd503a0306598", func := "loop.example/g00115/laws.FnProducts", spec := "fnProducts", inPlace := ["math.Float64frombits", "math.Float64bits"], apart := false, narrowed := true }
def FnProductsUptoSaid : Prop := fnProductsUptoRow.holds Try.pinned (OpenSpec.upto fnProductsSpec)

/-- 'laws.FnExactSqrt', WHERE WHAT IT READS IS OF BULK AT MOST 1048576: true; the input reads as it did. -/
def fnExactSqrtUptoRow : OpenClaim := { program := "ytkkohiflkhicpaa", sum := "8d7e8e0644538bab2cde4273f275bf014237aad15000d123e9ddd503a0306598", func := "loop.example/g00115/laws.FnExactSqrt", spec := "fnExactSqrt", inPlace := ["math.Float64frombits", "math.sqrt", "math.Float64bits"], apart := false, narrowed := true }
def FnExactSqrtUptoSaid : Prop := fnExactSqrtUptoRow.holds Try.pinned (OpenSpec.upto fnExactSqrtSpec)

end Rows
end Go.Proofs.Ytkkohiflkhicpaa
