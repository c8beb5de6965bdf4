/-
  DERIVED. GIVEN WITH THE SEED: THE CARDS: each row of YtkjpelgdppmbjaaDoorRows.lean that lists a variable, with what it lists TIED to the program's text (the seventh form; the later family's looks); each row that meets fmt, with fmt's text TOLD by the authors' own Lean function (tested against real Go, not proved from fmt's source: count such statements apart). THE CARD IS WHAT COUNTS. Prove the row's statement (the work); the ties are given (YtkjpelgdppmbjaaDoorTie.lean); close each card by the builder's one call (the guide's Derived/Test/ToyasCard.lean, 'card_holds'). Laid BY PROGRAM, IN A SANDBOX (cutbox-door.mjs). By AI agents, Wed Nov 11 2026. No macro, syntax, notation, axiom, sorry.
-/
import Derived.Test.YtkjpelgdppmbjaaDoorRows
import GoSem.ClaimSeven
namespace Go.Proofs.YtkjpelgdppmbjaaDoor
namespace Rows

/-- THE TIED CARD OF 'laws.FnExactNearest'. -/
def fnExactNearestCard : Claim7 := { stood := { row := fnExactNearestRow, standIns := [], harness := (true, "347f2eb4ab49d6ad14d537ac1fb6638b979330db19b1ff8f4f30d1852bacfeb0"), looks := true }, kinds := [], alts := [], laidByText := true, laidKinds := [.data, .data, .widerDeep, .widerDeep, .data, .data, .data, .data, .data, .sentinel, .sentinel, .pinned, .pinned], laidTests := true, laidLooks := .later }
def FnExactNearestCardSaid : Prop := Claim7.holds Tryd.pinned (.plain (OpenSpec.ofChange fnExactNearestSpec)) fnExactNearestCard

/-- THE SECOND FORM's CARD OF 'laws.FnExactNearest'. -/
def fnExactNearestUptoCard : Claim7 := { stood := { row := fnExactNearestUptoRow, standIns := [], harness := (true, "347f2eb4ab49d6ad14d537ac1fb6638b979330db19b1ff8f4f30d1852bacfeb0"), looks := true }, kinds := [], alts := [], laidByText := true, laidKinds := [.data, .data, .widerDeep, .widerDeep, .data, .data, .data, .data, .data, .sentinel, .sentinel, .pinned, .pinned], laidTests := true, laidLooks := .later }
def FnExactNearestUptoCardSaid : Prop := Claim7.holds Tryd.pinned (.plain (OpenSpec.upto fnExactNearestSpec)) fnExactNearestUptoCard
end Rows
end Go.Proofs.YtkjpelgdppmbjaaDoor
