/-
  No cell of these rows narrows 'for every input' (looked for: loops, veiled, ifaces, maps, wideKeys, modest, calm, conditions, laid).
  DERIVED. THE GIVEN ROWS OF THIS SEAT. 4 by the template 'for every input the law returns true; each argument reads behind the call as it read before'; 0 by the template 'total and deterministic' (their statements: YtidhjpdcbmbicaaTotals.lean).
  GIVEN WITH THE SEED: the statements are not yours to turn. If you find one false, say at which input.
  Laid BY PROGRAM, IN A SANDBOX (cutbox-rows.mjs): the forced cells as the released guide's own fill.sh prints them over the translation 4e87c30b7732de91… (all of the seat's roots in one cut). By AI agents, Wed Nov 11 2026. No macro, syntax, notation, axiom, sorry.
-/
import Derived.Test.YtidhjpdcbmbicaaChecked
import GoSem.Claim
import GoSem.ClaimJoined
import GoSem.ClaimMapViews
import Derived.JoinedTies
import Derived.KernelRfl
namespace Go.Proofs.Ytidhjpdcbmbicaa
/- THE CELL 'sum', in the pinned program and in every row, IS THE sha256 OF THE DUMP (.gsa) THAT YtidhjpdcbmbicaaProg.lean LOADS. Nothing in Lean hashes anything: it is a label: what it is worth is what the hold of that sum in a sandbox is worth. -/
noncomputable def Try.pinned : Pinned := { name := "ytidhjpdcbmbicaa", sum := "4e87c30b7732de91dae40212a1d3d07f3a4f52b8878593fc51ad00a7634872f3", checked := Try.checked }
namespace Rows
def none {H : Type} : Left H := { results := [], args := [] }

/-- 'laws.FnNear': WHATEVER THE INPUT: true; the input reads as it did. -/
def fnNearSpec : ChangeSpec := { name := "fnNear", fn := fun _ => fun
  | [d] => { results := [.lit (.bool true)], args := [d] }
  | _ => none }
def fnNearRow : OpenClaim := { program := "ytidhjpdcbmbicaa", sum := "4e87c30b7732de91dae40212a1d3d07f3a4f52b8878593fc51ad00a7634872f3", func := "loop.example/g00115/laws.FnNear", spec := "fnNear", inPlace := ["math.Float64frombits", "math.Float64bits"], apart := false }
def FnNearSaid : Prop := fnNearRow.holds Try.pinned (OpenSpec.ofChange fnNearSpec)

/-- ITS FALSE NEIGHBOUR: 'it returns false'. Refute it at one input. -/
def fnNearWrong : ChangeSpec := { name := "fnNear", fn := fun _ => fun
  | [d] => { results := [.lit (.bool false)], args := [d] }
  | _ => none }
def FnNearWrongFalsely : Prop := fnNearRow.holds Try.pinned (OpenSpec.ofChange fnNearWrong)

/-- 'laws.FnSums': WHATEVER THE INPUT: true; the input reads as it did. -/
def fnSumsSpec : ChangeSpec := { name := "fnSums", fn := fun _ => fun
  | [d] => { results := [.lit (.bool true)], args := [d] }
  | _ => none }
def fnSumsRow : OpenClaim := { program := "ytidhjpdcbmbicaa", sum := "4e87c30b7732de91dae40212a1d3d07f3a4f52b8878593fc51ad00a7634872f3", func := "loop.example/g00115/laws.FnSums", spec := "fnSums", inPlace := ["math.Float64frombits", "math.Float64bits"], apart := false }
def FnSumsSaid : Prop := fnSumsRow.holds Try.pinned (OpenSpec.ofChange fnSumsSpec)

/-- ITS FALSE NEIGHBOUR: 'it returns false'. Refute it at one input. -/
def fnSumsWrong : ChangeSpec := { name := "fnSums", fn := fun _ => fun
  | [d] => { results := [.lit (.bool false)], args := [d] }
  | _ => none }
def FnSumsWrongFalsely : Prop := fnSumsRow.holds Try.pinned (OpenSpec.ofChange fnSumsWrong)

/-- 'laws.FnExactRem': WHATEVER THE INPUT: true; the input reads as it did. -/
def fnExactRemSpec : ChangeSpec := { name := "fnExactRem", fn := fun _ => fun
  | [d1, d2] => { results := [.lit (.bool true)], args := [d1, d2] }
  | _ => none }
def fnExactRemRow : OpenClaim := { program := "ytidhjpdcbmbicaa", sum := "4e87c30b7732de91dae40212a1d3d07f3a4f52b8878593fc51ad00a7634872f3", func := "loop.example/g00115/laws.FnExactRem", spec := "fnExactRem", inPlace := ["math.Float64frombits", "math.Float64bits"], apart := false }
def FnExactRemSaid : Prop := fnExactRemRow.holds Try.pinned (OpenSpec.ofChange fnExactRemSpec)

/-- ITS FALSE NEIGHBOUR: 'it returns false'. Refute it at one input. -/
def fnExactRemWrong : ChangeSpec := { name := "fnExactRem", fn := fun _ => fun
  | [d1, d2] => { results := [.lit (.bool false)], args := [d1, d2] }
  | _ => none }
def FnExactRemWrongFalsely : Prop := fnExactRemRow.holds Try.pinned (OpenSpec.ofChange fnExactRemWrong)

/-- 'laws.FnRests': WHATEVER THE INPUT: true; the input reads as it did. -/
def fnRestsSpec : ChangeSpec := { name := "fnRests", fn := fun _ => fun
  | [d] => { results := [.lit (.bool true)], args := [d] }
  | _ => none }
def fnRestsRow : OpenClaim := { program := "ytidhjpdcbmbicaa", sum := "4e87c30b7732de91dae40212a1d3d07f3a4f52b8878593fc51ad00a7634872f3", func := "loop.example/g00115/laws.FnRests", spec := "fnRests", inPlace := ["math.Float64frombits", "math.Float64bits"], apart := false }
def FnRestsSaid : Prop := fnRestsRow.holds Try.pinned (OpenSpec.ofChange fnRestsSpec)

/-- ITS FALSE NEIGHBOUR: 'it returns false'. Refute it at one input. -/
def fnRestsWrong : ChangeSpec := { name := "fnRests", fn := fun _ => fun
  | [d] => { results := [.lit (.bool false)], args := [d] }
  | _ => none }
def FnRestsWrongFalsely : Prop := fnRestsRow.holds Try.pinned (OpenSpec.ofChange fnRestsWrong)

/- THE SECOND FORM. 'bulk': how many values and letters a reading holds, each counted each time it is reached (what is shared counts as often as it is met; a slice's spare places count too). A statement '..UptoSaid' is the law's where the arguments, and the package variables that the reading takes, are together of bulk at most 1048576: NARROWER than '..Said'. Prove '..Said' where nothing that the law and all that it calls make is longer than what came in: it says more and counts as full. Else prove '..UptoSaid'. A law counts once. -/
mutual
def uptoBulk {H : Type} : DataW H → Nat
  | .lit (.string bytes) => bytes.length + 1
  | .lit _ => 1
  | .nil => 1
  | .ptr d => uptoBulk d + 1
  | .slice elems spare => uptoBulkAll elems + uptoBulkAll spare + 1
  | .agg parts => uptoBulkAll parts + 1
  | .iface _ d => uptoBulk d + 1
  | .map entries => uptoBulkEntries entries + 1
  | .held _ => 1
def uptoBulkAll {H : Type} : List (DataW H) → Nat
  | [] => 0
  | d :: r => uptoBulk d + uptoBulkAll r
def uptoBulkEntries {H : Type} : List (Lit × DataW H) → Nat
  | [] => 0
  | x :: r => uptoBulkEntry x + uptoBulkEntries r
def uptoBulkEntry {H : Type} : Lit × DataW H → Nat
  | (.string bytes, d) => bytes.length + uptoBulk d + 1
  | (_, d) => uptoBulk d + 1
 end
def uptoSmall : (H : Type) → List (DataW H) → Bool := fun _ ds => decide (uptoBulkAll ds ≤ 1048576)
def OpenSpec.upto (s : _root_.Go.ChangeSpec) : _root_.Go.OpenSpec := { _root_.Go.OpenSpec.ofChange s with cond := some uptoSmall }

/-- 'laws.FnNear', WHERE WHAT IT READS IS OF BULK AT MOST 1048576: true; the input reads as it did. -/
def fnNearUptoRow : OpenClaim := { program := "ytidhjpdcbmbicaa", sum := "4e87c30b7732de91dae40212a1d3d07f3a4f52b8878593fc51ad00a7634872f3", func := "loop.example/g00115/laws.FnNear", spec := "fnNear", inPlace := ["math.Float64frombits", "math.Float64bits"], apart := false, narrowed := true }
def FnNearUptoSaid : Prop := fnNearUptoRow.holds Try.pinned (OpenSpec.upto fnNearSpec)

/-- 'laws.FnSums', WHERE WHAT IT READS IS OF BULK AT MOST 1048576: true; the input reads as it did. -/
def fnSumsUptoRow : OpenClaim := { program := "ytidhjpdcbmbicaa", sum := "4e87c30b7732de91dae40212a1d3d07f3a4f52b8878593fc51ad00a7634872f3", func := "loop.example/g00115/laws.FnSums", spec := "fnSums", inPlace := ["math.Float64frombits", "math.Float64bits"], apart := false, narrowed := true }
def FnSumsUptoSaid : Prop := fnSumsUptoRow.holds Try.pinned (OpenSpec.upto fnSumsSpec)

/-- 'laws.FnExactRem', WHERE WHAT IT READS IS OF BULK AT MOST 1048576: true; the input reads as it did. -/
def fnExactRemUptoRow : OpenClaim := { program := "ytidhjpdcbmbicaa", sum := "4e87c30b7732de91dae40212a1d3d07f3a4f52b8878593fc51ad00a7634872f3", func := "loop.example/g00115/laws.FnExactRem", spec := "fnExactRem", inPlace := ["math.Float64frombits", "math.Float64bits"], apart := false, narrowed := true }
def FnExactRemUptoSaid : Prop := fnExactRemUptoRow.holds Try.pinned (OpenSpec.upto fnExactRemSpec)

/-- 'laws.FnRests', WHERE WHAT IT READS IS OF BULK AT MOST 1048576: true; the input reads as it did. -/
def fnRestsUptoRow : OpenClaim := { program := "ytidhjpdcbmbicaa", sum := "4e87c30b7732de91dae40212a1d3d07f3a4f52b8878593fc51ad00a7634872f3", func := "loop.example/g00115/laws.FnRests", spec := "fnRests", inPlace := ["math.Float64frombits", "math.Float64bits"], apart := false, narrowed := true }
def FnRestsUptoSaid : Prop := fnRestsUptoRow.holds Try.pinned (OpenSpec.upto fnRestsSpec)

end Rows
end Go.Proofs.Ytidhjpdcbmbicaa
