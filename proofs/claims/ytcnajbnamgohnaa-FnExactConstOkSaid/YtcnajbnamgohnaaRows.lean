/-
  No cell of these rows narrows 'for every input' (looked for: loops, veiled, ifaces, maps, wideKeys, modest, calm, conditions, laid).
  DERIVED. THE GIVEN ROWS OF THIS SEAT. 12 by the template 'for every input the law returns true; each argument reads behind the call as it read before'; 0 by the template 'total and deterministic' (their statements: YtcnajbnamgohnaaTotals.lean).
  GIVEN WITH THE SEED: the statements are not yours to turn. If you find one false, say at which input.
  Laid BY PROGRAM, IN A SANDBOX (cutbox-rows.mjs): the forced cells as the released guide's own fill.sh prints them over the translation 0f8c1c84a011b878… (all of the seat's roots in one cut). By AI agents, Wed Nov 11 2026. No macro, syntax, notation, axiom, sorry.
-/
import Derived.Test.YtcnajbnamgohnaaChecked
import GoSem.Claim
import GoSem.ClaimJoined
import GoSem.ClaimMapViews
import Derived.JoinedTies
import Derived.KernelRfl
namespace Go.Proofs.Ytcnajbnamgohnaa
/- THE CELL 'sum', in the pinned program and in every row, IS THE sha256 OF THE DUMP (.gsa) THAT YtcnajbnamgohnaaProg.lean LOADS. Nothing in Lean hashes anything: it is a label: what it is worth is what the hold of that sum in a sandbox is worth. -/
noncomputable def Try.pinned : Pinned := { name := "ytcnajbnamgohnaa", sum := "0f8c1c84a011b87843617bb9cba7e48ef2c7e9fed4fc85c3669811fc706677fc", checked := Try.checked }
namespace Rows
def none {H : Type} : Left H := { results := [], args := [] }

/-- 'laws.FnExactWords': WHATEVER THE INPUT: true; the input reads as it did. -/
def fnExactWordsSpec : ChangeSpec := { name := "fnExactWords", fn := fun _ => fun
  | [] => { results := [.lit (.bool true)], args := [] }
  | _ => none }
def fnExactWordsRow : OpenClaim := { program := "ytcnajbnamgohnaa", sum := "0f8c1c84a011b87843617bb9cba7e48ef2c7e9fed4fc85c3669811fc706677fc", func := "loop.example/g00115/laws.FnExactWords", spec := "fnExactWords", apart := false }
def FnExactWordsSaid : Prop := fnExactWordsRow.holds Try.pinned (OpenSpec.ofChange fnExactWordsSpec)

/-- ITS FALSE NEIGHBOUR: 'it returns false'. Refute it at one input. -/
def fnExactWordsWrong : ChangeSpec := { name := "fnExactWords", fn := fun _ => fun
  | [] => { results := [.lit (.bool false)], args := [] }
  | _ => none }
def FnExactWordsWrongFalsely : Prop := fnExactWordsRow.holds Try.pinned (OpenSpec.ofChange fnExactWordsWrong)

/-- 'laws.FnExactReadVar': WHATEVER THE INPUT: true; the input reads as it did. -/
def fnExactReadVarSpec : ChangeSpec := { name := "fnExactReadVar", fn := fun _ => fun
  | [d1, d2] => { results := [.lit (.bool true)], args := [d1, d2] }
  | _ => none }
def fnExactReadVarRow : OpenClaim := { program := "ytcnajbnamgohnaa", sum := "0f8c1c84a011b87843617bb9cba7e48ef2c7e9fed4fc85c3669811fc706677fc", func := "loop.example/g00115/laws.FnExactReadVar", spec := "fnExactReadVar", apart := false }
def FnExactReadVarSaid : Prop := fnExactReadVarRow.holds Try.pinned (OpenSpec.ofChange fnExactReadVarSpec)

/-- ITS FALSE NEIGHBOUR: 'it returns false'. Refute it at one input. -/
def fnExactReadVarWrong : ChangeSpec := { name := "fnExactReadVar", fn := fun _ => fun
  | [d1, d2] => { results := [.lit (.bool false)], args := [d1, d2] }
  | _ => none }
def FnExactReadVarWrongFalsely : Prop := fnExactReadVarRow.holds Try.pinned (OpenSpec.ofChange fnExactReadVarWrong)

/-- 'laws.FnExactSealed': WHATEVER THE INPUT: true; the input reads as it did. -/
def fnExactSealedSpec : ChangeSpec := { name := "fnExactSealed", fn := fun _ => fun
  | [d] => { results := [.lit (.bool true)], args := [d] }
  | _ => none }
def fnExactSealedRow : OpenClaim := { program := "ytcnajbnamgohnaa", sum := "0f8c1c84a011b87843617bb9cba7e48ef2c7e9fed4fc85c3669811fc706677fc", func := "loop.example/g00115/laws.FnExactSealed", spec := "fnExactSealed", apart := false }
def FnExactSealedSaid : Prop := fnExactSealedRow.holds Try.pinned (OpenSpec.ofChange fnExactSealedSpec)

/-- ITS FALSE NEIGHBOUR: 'it returns false'. Refute it at one input. -/
def fnExactSealedWrong : ChangeSpec := { name := "fnExactSealed", fn := fun _ => fun
  | [d] => { results := [.lit (.bool false)], args := [d] }
  | _ => none }
def FnExactSealedWrongFalsely : Prop := fnExactSealedRow.holds Try.pinned (OpenSpec.ofChange fnExactSealedWrong)

/-- 'laws.FnExactUnsealed': WHATEVER THE INPUT: true; the input reads as it did. -/
def fnExactUnsealedSpec : ChangeSpec := { name := "fnExactUnsealed", fn := fun _ => fun
  | [d] => { results := [.lit (.bool true)], args := [d] }
  | _ => none }
def fnExactUnsealedRow : OpenClaim := { program := "ytcnajbnamgohnaa", sum := "0f8c1c84a011b87843617bb9cba7e48ef2c7e9fed4fc85c3669811fc706677fc", func := "loop.example/g00115/laws.FnExactUnsealed", spec := "fnExactUnsealed", apart := false }
def FnExactUnsealedSaid : Prop := fnExactUnsealedRow.holds Try.pinned (OpenSpec.ofChange fnExactUnsealedSpec)

/-- ITS FALSE NEIGHBOUR: 'it returns false'. Refute it at one input. -/
def fnExactUnsealedWrong : ChangeSpec := { name := "fnExactUnsealed", fn := fun _ => fun
  | [d] => { results := [.lit (.bool false)], args := [d] }
  | _ => none }
def FnExactUnsealedWrongFalsely : Prop := fnExactUnsealedRow.holds Try.pinned (OpenSpec.ofChange fnExactUnsealedWrong)

/-- 'laws.FnExactTruthy': WHATEVER THE INPUT: true; the input reads as it did. -/
def fnExactTruthySpec : ChangeSpec := { name := "fnExactTruthy", fn := fun _ => fun
  | [d] => { results := [.lit (.bool true)], args := [d] }
  | _ => none }
def fnExactTruthyRow : OpenClaim := { program := "ytcnajbnamgohnaa", sum := "0f8c1c84a011b87843617bb9cba7e48ef2c7e9fed4fc85c3669811fc706677fc", func := "loop.example/g00115/laws.FnExactTruthy", spec := "fnExactTruthy", apart := false }
def FnExactTruthySaid : Prop := fnExactTruthyRow.holds Try.pinned (OpenSpec.ofChange fnExactTruthySpec)

/-- ITS FALSE NEIGHBOUR: 'it returns false'. Refute it at one input. -/
def fnExactTruthyWrong : ChangeSpec := { name := "fnExactTruthy", fn := fun _ => fun
  | [d] => { results := [.lit (.bool false)], args := [d] }
  | _ => none }
def FnExactTruthyWrongFalsely : Prop := fnExactTruthyRow.holds Try.pinned (OpenSpec.ofChange fnExactTruthyWrong)

/-- 'laws.FnExactReadShort': WHATEVER THE INPUT: true; the input reads as it did. -/
def fnExactReadShortSpec : ChangeSpec := { name := "fnExactReadShort", fn := fun _ => fun
  | [d1, d2] => { results := [.lit (.bool true)], args := [d1, d2] }
  | _ => none }
def fnExactReadShortRow : OpenClaim := { program := "ytcnajbnamgohnaa", sum := "0f8c1c84a011b87843617bb9cba7e48ef2c7e9fed4fc85c3669811fc706677fc", func := "loop.example/g00115/laws.FnExactReadShort", spec := "fnExactReadShort", apart := false }
def FnExactReadShortSaid : Prop := fnExactReadShortRow.holds Try.pinned (OpenSpec.ofChange fnExactReadShortSpec)

/-- ITS FALSE NEIGHBOUR: 'it returns false'. Refute it at one input. -/
def fnExactReadShortWrong : ChangeSpec := { name := "fnExactReadShort", fn := fun _ => fun
  | [d1, d2] => { results := [.lit (.bool false)], args := [d1, d2] }
  | _ => none }
def FnExactReadShortWrongFalsely : Prop := fnExactReadShortRow.holds Try.pinned (OpenSpec.ofChange fnExactReadShortWrong)

/-- 'laws.FnExactPartsOfNumber': WHATEVER THE INPUT: true; the input reads as it did. -/
def fnExactPartsOfNumberSpec : ChangeSpec := { name := "fnExactPartsOfNumber", fn := fun _ => fun
  | [d] => { results := [.lit (.bool true)], args := [d] }
  | _ => none }
def fnExactPartsOfNumberRow : OpenClaim := { program := "ytcnajbnamgohnaa", sum := "0f8c1c84a011b87843617bb9cba7e48ef2c7e9fed4fc85c3669811fc706677fc", func := "loop.example/g00115/laws.FnExactPartsOfNumber", spec := "fnExactPartsOfNumber", apart := false }
def FnExactPartsOfNumberSaid : Prop := fnExactPartsOfNumberRow.holds Try.pinned (OpenSpec.ofChange fnExactPartsOfNumberSpec)

/-- ITS FALSE NEIGHBOUR: 'it returns false'. Refute it at one input. -/
def fnExactPartsOfNumberWrong : ChangeSpec := { name := "fnExactPartsOfNumber", fn := fun _ => fun
  | [d] => { results := [.lit (.bool false)], args := [d] }
  | _ => none }
def FnExactPartsOfNumberWrongFalsely : Prop := fnExactPartsOfNumberRow.holds Try.pinned (OpenSpec.ofChange fnExactPartsOfNumberWrong)

/-- 'laws.FnExactReadDecimal': WHATEVER THE INPUT: true; the input reads as it did. -/
def fnExactReadDecimalSpec : ChangeSpec := { name := "fnExactReadDecimal", fn := fun _ => fun
  | [d] => { results := [.lit (.bool true)], args := [d] }
  | _ => none }
def fnExactReadDecimalRow : OpenClaim := { program := "ytcnajbnamgohnaa", sum := "0f8c1c84a011b87843617bb9cba7e48ef2c7e9fed4fc85c3669811fc706677fc", func := "loop.example/g00115/laws.FnExactReadDecimal", spec := "fnExactReadDecimal", apart := false }
def FnExactReadDecimalSaid : Prop := fnExactReadDecimalRow.holds Try.pinned (OpenSpec.ofChange fnExactReadDecimalSpec)

/-- ITS FALSE NEIGHBOUR: 'it returns false'. Refute it at one input. -/
def fnExactReadDecimalWrong : ChangeSpec := { name := "fnExactReadDecimal", fn := fun _ => fun
  | [d] => { results := [.lit (.bool false)], args := [d] }
  | _ => none }
def FnExactReadDecimalWrongFalsely : Prop := fnExactReadDecimalRow.holds Try.pinned (OpenSpec.ofChange fnExactReadDecimalWrong)

/-- 'laws.FnExactConstOk': WHATEVER THE INPUT: true; the input reads as it did. -/
def fnExactConstOkSpec : ChangeSpec := { name := "fnExactConstOk", fn := fun _ => fun
  | [d] => { results := [.lit (.bool true)], args := [d] }
  | _ => none }
def fnExactConstOkRow : OpenClaim := { program := "ytcnajbnamgohnaa", sum := "0f8c1c84a011b87843617bb9cba7e48ef2c7e9fed4fc85c3669811fc706677fc", func := "loop.example/g00115/laws.FnExactConstOk", spec := "fnExactConstOk", apart := false }
def FnExactConstOkSaid : Prop := fnExactConstOkRow.holds Try.pinned (OpenSpec.ofChange fnExactConstOkSpec)

/-- ITS FALSE NEIGHBOUR: 'it returns false'. Refute it at one input. -/
def fnExactConstOkWrong : ChangeSpec := { name := "fnExactConstOk", fn := fun _ => fun
  | [d] => { results := [.lit (.bool false)], args := [d] }
  | _ => none }
def FnExactConstOkWrongFalsely : Prop := fnExactConstOkRow.holds Try.pinned (OpenSpec.ofChange fnExactConstOkWrong)

/-- 'laws.FnTurned': WHATEVER THE INPUT: true; the input reads as it did. -/
def fnTurnedSpec : ChangeSpec := { name := "fnTurned", fn := fun _ => fun
  | [d] => { results := [.lit (.bool true)], args := [d] }
  | _ => none }
def fnTurnedRow : OpenClaim := { program := "ytcnajbnamgohnaa", sum := "0f8c1c84a011b87843617bb9cba7e48ef2c7e9fed4fc85c3669811fc706677fc", func := "loop.example/g00115/laws.FnTurned", spec := "fnTurned", apart := false }
def FnTurnedSaid : Prop := fnTurnedRow.holds Try.pinned (OpenSpec.ofChange fnTurnedSpec)

/-- ITS FALSE NEIGHBOUR: 'it returns false'. Refute it at one input. -/
def fnTurnedWrong : ChangeSpec := { name := "fnTurned", fn := fun _ => fun
  | [d] => { results := [.lit (.bool false)], args := [d] }
  | _ => none }
def FnTurnedWrongFalsely : Prop := fnTurnedRow.holds Try.pinned (OpenSpec.ofChange fnTurnedWrong)

/-- 'laws.FnExactToInt32': WHATEVER THE INPUT: true; the input reads as it did. -/
def fnExactToInt32Spec : ChangeSpec := { name := "fnExactToInt32", fn := fun _ => fun
  | [d] => { results := [.lit (.bool true)], args := [d] }
  | _ => none }
def fnExactToInt32Row : OpenClaim := { program := "ytcnajbnamgohnaa", sum := "0f8c1c84a011b87843617bb9cba7e48ef2c7e9fed4fc85c3669811fc706677fc", func := "loop.example/g00115/laws.FnExactToInt32", spec := "fnExactToInt32", apart := false }
def FnExactToInt32Said : Prop := fnExactToInt32Row.holds Try.pinned (OpenSpec.ofChange fnExactToInt32Spec)

/-- ITS FALSE NEIGHBOUR: 'it returns false'. Refute it at one input. -/
def fnExactToInt32Wrong : ChangeSpec := { name := "fnExactToInt32", fn := fun _ => fun
  | [d] => { results := [.lit (.bool false)], args := [d] }
  | _ => none }
def FnExactToInt32WrongFalsely : Prop := fnExactToInt32Row.holds Try.pinned (OpenSpec.ofChange fnExactToInt32Wrong)

/-- 'laws.FnExactRoundTo': WHATEVER THE INPUT: true; the input reads as it did. -/
def fnExactRoundToSpec : ChangeSpec := { name := "fnExactRoundTo", fn := fun _ => fun
  | [d1, d2, d3, d4] => { results := [.lit (.bool true)], args := [d1, d2, d3, d4] }
  | _ => none }
def fnExactRoundToRow : OpenClaim := { program := "ytcnajbnamgohnaa", sum := "0f8c1c84a011b87843617bb9cba7e48ef2c7e9fed4fc85c3669811fc706677fc", func := "loop.example/g00115/laws.FnExactRoundTo", spec := "fnExactRoundTo", apart := false }
def FnExactRoundToSaid : Prop := fnExactRoundToRow.holds Try.pinned (OpenSpec.ofChange fnExactRoundToSpec)

/-- ITS FALSE NEIGHBOUR: 'it returns false'. Refute it at one input. -/
def fnExactRoundToWrong : ChangeSpec := { name := "fnExactRoundTo", fn := fun _ => fun
  | [d1, d2, d3, d4] => { results := [.lit (.bool false)], args := [d1, d2, d3, d4] }
  | _ => none }
def FnExactRoundToWrongFalsely : Prop := fnExactRoundToRow.holds Try.pinned (OpenSpec.ofChange fnExactRoundToWrong)

/- THE SECOND FORM. 'bulk': how many values and letters a reading holds, each counted each time it is reached (what is shared counts as often as it is met; a slice's spare places count too). A statement '..UptoSaid' is the law's where the arguments, and the package variables that the reading takes, are together of bulk at most 1048576: NARROWER than '..Said'. Prove '..Said' where nothing that the law and all that it calls make is longer than what came in: it says more and counts as full. Else prove '..UptoSaid'. A law counts once. -/
mutual
def uptoBulk {H : Type} : DataW H → Nat
  | .lit (.string bytes) => bytes.length + 1
  | .lit _ => 1
  | .nil => 1
  | .ptr d => uptoBulk d + 1
  | .slice elems spare => uptoBulkAll elems + uptoBulkAll spare + 1
  | .agg parts => uptoBulkAll parts + 1
  | .iface _ d => uptoBulk d + 1
  | .map entries => uptoBulkEntries entries + 1
  | .held _ => 1
def uptoBulkAll {H : Type} : List (DataW H) → Nat
  | [] => 0
  | d :: r => uptoBulk d + uptoBulkAll r
def uptoBulkEntries {H : Type} : List (Lit × DataW H) → Nat
  | [] => 0
  | x :: r => uptoBulkEntry x + uptoBulkEntries r
def uptoBulkEntry {H : Type} : Lit × DataW H → Nat
  | (.string bytes, d) => bytes.length + uptoBulk d + 1
  | (_, d) => uptoBulk d + 1
 end
def uptoSmall : (H : Type) → List (DataW H) → Bool := fun _ ds => decide (uptoBulkAll ds ≤ 1048576)
def OpenSpec.upto (s : _root_.Go.ChangeSpec) : _root_.Go.OpenSpec := { _root_.Go.OpenSpec.ofChange s with cond := some uptoSmall }

/-- 'laws.FnExactWords', WHERE WHAT IT READS IS OF BULK AT MOST 1048576: true; the input reads as it did. -/
def fnExactWordsUptoRow : OpenClaim := { program := "ytcnajbnamgohnaa", sum := "0f8c1c84a011b87843617bb9cba7e48ef2c7e9fed4fc85c3669811fc706677fc", func := "loop.example/g00115/laws.FnExactWords", spec := "fnExactWords", apart := false, narrowed := true }
def FnExactWordsUptoSaid : Prop := fnExactWordsUptoRow.holds Try.pinned (OpenSpec.upto fnExactWordsSpec)

/-- 'laws.FnExactReadVar', WHERE WHAT IT READS IS OF BULK AT MOST 1048576: true; the input reads as it did. -/
def fnExactReadVarUptoRow : OpenClaim := { program := "ytcnajbnamgohnaa", sum := "0f8c1c84a011b87843617bb9cba7e48ef2c7e9fed4fc85c3669811fc706677fc", func := "loop.example/g00115/laws.FnExactReadVar", spec := "fnExactReadVar", apart := false, narrowed := true }
def FnExactReadVarUptoSaid : Prop := fnExactReadVarUptoRow.holds Try.pinned (OpenSpec.upto fnExactReadVarSpec)

/-- 'laws.FnExactSealed', WHERE WHAT IT READS IS OF BULK AT MOST 1048576: true; the input reads as it did. -/
def fnExactSealedUptoRow : OpenClaim := { program := "ytcnajbnamgohnaa", sum := "0f8c1c84a011b87843617bb9cba7e48ef2c7e9fed4fc85c3669811fc706677fc", func := "loop.example/g00115/laws.FnExactSealed", spec := "fnExactSealed", apart := false, narrowed := true }
def FnExactSealedUptoSaid : Prop := fnExactSealedUptoRow.holds Try.pinned (OpenSpec.upto fnExactSealedSpec)

/-- 'laws.FnExactUnsealed', WHERE WHAT IT READS IS OF BULK AT MOST 1048576: true; the input reads as it did. -/
def fnExactUnsealedUptoRow : OpenClaim := { program := "ytcnajbnamgohnaa", sum := "0f8c1c84a011b87843617bb9cba7e48ef2c7e9fed4fc85c3669811fc706677fc", func := "loop.example/g00115/laws.FnExactUnsealed", spec := "fnExactUnsealed", apart := false, narrowed := true }
def FnExactUnsealedUptoSaid : Prop := fnExactUnsealedUptoRow.holds Try.pinned (OpenSpec.upto fnExactUnsealedSpec)

/-- 'laws.FnExactTruthy', WHERE WHAT IT READS IS OF BULK AT MOST 1048576: true; the input reads as it did. -/
def fnExactTruthyUptoRow : OpenClaim := { program := "ytcnajbnamgohnaa", sum := "0f8c1c84a011b87843617bb9cba7e48ef2c7e9fed4fc85c3669811fc706677fc", func := "loop.example/g00115/laws.FnExactTruthy", spec := "fnExactTruthy", apart := false, narrowed := true }
def FnExactTruthyUptoSaid : Prop := fnExactTruthyUptoRow.holds Try.pinned (OpenSpec.upto fnExactTruthySpec)

/-- 'laws.FnExactReadShort', WHERE WHAT IT READS IS OF BULK AT MOST 1048576: true; the input reads as it did. -/
def fnExactReadShortUptoRow : OpenClaim := { program := "ytcnajbnamgohnaa", sum := "0f8c1c84a011b87843617bb9cba7e48ef2c7e9fed4fc85c3669811fc706677fc", func := "loop.example/g00115/laws.FnExactReadShort", spec := "fnExactReadShort", apart := false, narrowed := true }
def FnExactReadShortUptoSaid : Prop := fnExactReadShortUptoRow.holds Try.pinned (OpenSpec.upto fnExactReadShortSpec)

/-- 'laws.FnExactPartsOfNumber', WHERE WHAT IT READS IS OF BULK AT MOST 1048576: true; the input reads as it did. -/
def fnExactPartsOfNumberUptoRow : OpenClaim := { program := "ytcnajbnamgohnaa", sum := "0f8c1c84a011b87843617bb9cba7e48ef2c7e9fed4fc85c3669811fc706677fc", func := "loop.example/g00115/laws.FnExactPartsOfNumber", spec := "fnExactPartsOfNumber", apart := false, narrowed := true }
def FnExactPartsOfNumberUptoSaid : Prop := fnExactPartsOfNumberUptoRow.holds Try.pinned (OpenSpec.upto fnExactPartsOfNumberSpec)

/-- 'laws.FnExactReadDecimal', WHERE WHAT IT READS IS OF BULK AT MOST 1048576: true; the input reads as it did. -/
def fnExactReadDecimalUptoRow : OpenClaim := { program := "ytcnajbnamgohnaa", sum := "0f8c1c84a011b87843617bb9cba7e48ef2c7e9fed4fc85c3669811fc706677fc", func := "loop.example/g00115/laws.FnExactReadDecimal", spec := "fnExactReadDecimal", apart := false, narrowed := true }
def FnExactReadDecimalUptoSaid : Prop := fnExactReadDecimalUptoRow.holds Try.pinned (OpenSpec.upto fnExactReadDecimalSpec)

/-- 'laws.FnExactConstOk', WHERE WHAT IT READS IS OF BULK AT MOST 1048576: true; the input reads as it did. -/
def fnExactConstOkUptoRow : OpenClaim := { program := "ytcnajbnamgohnaa", sum := "0f8c1c84a011b87843617bb9cba7e48ef2c7e9fed4fc85c3669811fc706677fc", func := "loop.example/g00115/laws.FnExactConstOk", spec := "fnExactConstOk", apart := false, narrowed := true }
def FnExactConstOkUptoSaid : Prop := fnExactConstOkUptoRow.holds Try.pinned (OpenSpec.upto fnExactConstOkSpec)

/-- 'laws.FnTurned', WHERE WHAT IT READS IS OF BULK AT MOST 1048576: true; the input reads as it did. -/
def fnTurnedUptoRow : OpenClaim := { program := "ytcnajbnamgohnaa", sum := "0f8c1c84a011b87843617bb9cba7e48ef2c7e9fed4fc85c3669811fc706677fc", func := "loop.example/g00115/laws.FnTurned", spec := "fnTurned", apart := false, narrowed := true }
def FnTurnedUptoSaid : Prop := fnTurnedUptoRow.holds Try.pinned (OpenSpec.upto fnTurnedSpec)

/-- 'laws.FnExactToInt32', WHERE WHAT IT READS IS OF BULK AT MOST 1048576: true; the input reads as it did. -/
def fnExactToInt32UptoRow : OpenClaim := { program := "ytcnajbnamgohnaa", sum := "0f8c1c84a011b87843617bb9cba7e48ef2c7e9fed4fc85c3669811fc706677fc", func := "loop.example/g00115/laws.FnExactToInt32", spec := "fnExactToInt32", apart := false, narrowed := true }
def FnExactToInt32UptoSaid : Prop := fnExactToInt32UptoRow.holds Try.pinned (OpenSpec.upto fnExactToInt32Spec)

/-- 'laws.FnExactRoundTo', WHERE WHAT IT READS IS OF BULK AT MOST 1048576: true; the input reads as it did. -/
def fnExactRoundToUptoRow : OpenClaim := { program := "ytcnajbnamgohnaa", sum := "0f8c1c84a011b87843617bb9cba7e48ef2c7e9fed4fc85c3669811fc706677fc", func := "loop.example/g00115/laws.FnExactRoundTo", spec := "fnExactRoundTo", apart := false, narrowed := true }
def FnExactRoundToUptoSaid : Prop := fnExactRoundToUptoRow.holds Try.pinned (OpenSpec.upto fnExactRoundToSpec)

end Rows
end Go.Proofs.Ytcnajbnamgohnaa
