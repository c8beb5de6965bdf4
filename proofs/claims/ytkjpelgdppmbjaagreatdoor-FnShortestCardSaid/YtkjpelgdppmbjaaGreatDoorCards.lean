/-
  DERIVED. GIVEN WITH THE SEED: THE CARDS: each row of YtkjpelgdppmbjaaGreatDoorRows.lean that lists a variable, with what it lists TIED to the program's text (the seventh form; the later family's looks); each row that meets fmt, with fmt's text TOLD by the authors' own Lean function (tested against real Go, not proved from fmt's source: count such statements apart). THE CARD IS WHAT COUNTS. Prove the row's statement (the work); the ties are given (YtkjpelgdppmbjaaGreatDoorTie.lean); close each card by the builder's one call (the guide's Derived/Test/ToyasCard.lean, 'card_holds'). Laid BY PROGRAM, IN A SANDBOX (cutbox-door.mjs). By AI agents, Wed Nov 11 2026. No macro, syntax, notation, axiom, sorry.
-/
import Derived.Test.YtkjpelgdppmbjaaGreatDoorRows
import GoSem.ClaimSeven
namespace Go.Proofs.YtkjpelgdppmbjaaGreatDoor
namespace Rows

/-- THE TIED CARD OF 'laws.FnNearest'. -/
def fnNearestCard : Claim7 := { stood := { row := fnNearestRow, standIns := [], harness := (true, "548d63157fb89d7fbef8ae9101512b1ee01e269ba596a308e2aa6bab7dc7317c"), looks := true }, kinds := [], alts := [], laidByText := true, laidKinds := [.data, .data, .widerDeep, .widerDeep, .data, .data, .data, .data, .data, .sentinel, .sentinel, .pinned, .pinned], laidTests := true, laidLooks := .later }
def FnNearestCardSaid : Prop := Claim7.holds Tryz.pinned (.plain (OpenSpec.ofChange fnNearestSpec)) fnNearestCard

/-- THE TIED CARD OF 'laws.FnExactExact'. -/
def fnExactExactCard : Claim7 := { stood := { row := fnExactExactRow, standIns := [], harness := (true, "548d63157fb89d7fbef8ae9101512b1ee01e269ba596a308e2aa6bab7dc7317c"), looks := true }, kinds := [], alts := [], laidByText := true, laidKinds := [.data, .data, .data, .data, .data, .sentinel, .sentinel, .pinned, .pinned, .pinned], laidTests := true, laidLooks := .later }
def FnExactExactCardSaid : Prop := Claim7.holds Tryz.pinned (.plain (OpenSpec.ofChange fnExactExactSpec)) fnExactExactCard

/-- THE TIED CARD OF 'laws.FnExact'. -/
def fnExactCard : Claim7 := { stood := { row := fnExactRow, standIns := [], harness := (true, "548d63157fb89d7fbef8ae9101512b1ee01e269ba596a308e2aa6bab7dc7317c"), looks := true }, kinds := [], alts := [], laidByText := true, laidKinds := [.data, .data, .data, .data, .data, .sentinel, .sentinel, .pinned, .pinned, .pinned], laidTests := true, laidLooks := .later }
def FnExactCardSaid : Prop := Claim7.holds Tryz.pinned (.plain (OpenSpec.ofChange fnExactSpec)) fnExactCard

/-- THE TIED CARD OF 'laws.FnExactShortest'. -/
def fnExactShortestCard : Claim7 := { stood := { row := fnExactShortestRow, standIns := [], harness := (true, "548d63157fb89d7fbef8ae9101512b1ee01e269ba596a308e2aa6bab7dc7317c"), looks := true }, kinds := [], alts := [], laidByText := true, laidKinds := [.data, .data, .data, .data, .data, .sentinel, .sentinel, .pinned, .pinned, .pinned], laidTests := true, laidLooks := .later }
def FnExactShortestCardSaid : Prop := Claim7.holds Tryz.pinned (.plain (OpenSpec.ofChange fnExactShortestSpec)) fnExactShortestCard

/-- THE TIED CARD OF 'laws.FnExactScan'. -/
def fnExactScanCard : Claim7 := { stood := { row := fnExactScanRow, standIns := [], harness := (true, "548d63157fb89d7fbef8ae9101512b1ee01e269ba596a308e2aa6bab7dc7317c"), looks := true }, kinds := [], alts := [], laidByText := true, laidKinds := [.data, .data, .widerDeep, .widerDeep, .data, .data, .data, .data, .data, .data, .sentinel, .sentinel, .pinned, .pinned, .pinned], laidTests := true, laidLooks := .later }
def FnExactScanCardSaid : Prop := Claim7.holds Tryz.pinned (.plain (OpenSpec.ofChange fnExactScanSpec)) fnExactScanCard

/-- THE TIED CARD OF 'laws.FnExactShowNumber'. -/
def fnExactShowNumberCard : Claim7 := { stood := { row := fnExactShowNumberRow, standIns := [], harness := (true, "548d63157fb89d7fbef8ae9101512b1ee01e269ba596a308e2aa6bab7dc7317c"), looks := true }, kinds := [], alts := [], laidByText := true, laidKinds := [.data, .data, .data, .data, .data, .sentinel, .sentinel, .pinned, .pinned, .pinned], laidTests := true, laidLooks := .later }
def FnExactShowNumberCardSaid : Prop := Claim7.holds Tryz.pinned (.plain (OpenSpec.ofChange fnExactShowNumberSpec)) fnExactShowNumberCard

/-- THE TIED CARD OF 'laws.FnTokens'. -/
def fnTokensCard : Claim7 := { stood := { row := fnTokensRow, standIns := [], harness := (true, "548d63157fb89d7fbef8ae9101512b1ee01e269ba596a308e2aa6bab7dc7317c"), looks := true }, kinds := [], alts := [], laidByText := true, laidKinds := [.data, .data, .widerDeep, .widerDeep, .data, .data, .data, .data, .data, .data, .sentinel, .sentinel, .pinned, .pinned, .pinned], laidTests := true, laidLooks := .later }
def FnTokensCardSaid : Prop := Claim7.holds Tryz.pinned (.plain (OpenSpec.ofChange fnTokensSpec)) fnTokensCard

/-- THE TIED CARD OF 'laws.FnShows'. -/
def fnShowsCard : Claim7 := { stood := { row := fnShowsRow, standIns := [], harness := (true, "548d63157fb89d7fbef8ae9101512b1ee01e269ba596a308e2aa6bab7dc7317c"), looks := true }, kinds := [], alts := [], laidByText := true, laidKinds := [.data, .data, .widerDeep, .widerDeep, .data, .data, .data, .data, .data, .data, .sentinel, .sentinel, .pinned, .pinned, .pinned], laidTests := true, laidLooks := .later }
def FnShowsCardSaid : Prop := Claim7.holds Tryz.pinned (.plain (OpenSpec.ofChange fnShowsSpec)) fnShowsCard

/-- THE TIED CARD OF 'laws.FnShortest'. -/
def fnShortestCard : Claim7 := { stood := { row := fnShortestRow, standIns := [], harness := (true, "548d63157fb89d7fbef8ae9101512b1ee01e269ba596a308e2aa6bab7dc7317c"), looks := true }, kinds := [], alts := [], laidByText := true, laidKinds := [.data, .data, .widerDeep, .widerDeep, .data, .data, .data, .data, .data, .data, .sentinel, .sentinel, .pinned, .pinned, .pinned], laidTests := true, laidLooks := .later }
def FnShortestCardSaid : Prop := Claim7.holds Tryz.pinned (.plain (OpenSpec.ofChange fnShortestSpec)) fnShortestCard

/-- THE SECOND FORM's CARD OF 'laws.FnNearest'. -/
def fnNearestUptoCard : Claim7 := { stood := { row := fnNearestUptoRow, standIns := [], harness := (true, "548d63157fb89d7fbef8ae9101512b1ee01e269ba596a308e2aa6bab7dc7317c"), looks := true }, kinds := [], alts := [], laidByText := true, laidKinds := [.data, .data, .widerDeep, .widerDeep, .data, .data, .data, .data, .data, .sentinel, .sentinel, .pinned, .pinned], laidTests := true, laidLooks := .later }
def FnNearestUptoCardSaid : Prop := Claim7.holds Tryz.pinned (.plain (OpenSpec.upto fnNearestSpec)) fnNearestUptoCard

/-- THE SECOND FORM's CARD OF 'laws.FnExactExact'. -/
def fnExactExactUptoCard : Claim7 := { stood := { row := fnExactExactUptoRow, standIns := [], harness := (true, "548d63157fb89d7fbef8ae9101512b1ee01e269ba596a308e2aa6bab7dc7317c"), looks := true }, kinds := [], alts := [], laidByText := true, laidKinds := [.data, .data, .data, .data, .data, .sentinel, .sentinel, .pinned, .pinned, .pinned], laidTests := true, laidLooks := .later }
def FnExactExactUptoCardSaid : Prop := Claim7.holds Tryz.pinned (.plain (OpenSpec.upto fnExactExactSpec)) fnExactExactUptoCard

/-- THE SECOND FORM's CARD OF 'laws.FnExact'. -/
def fnExactUptoCard : Claim7 := { stood := { row := fnExactUptoRow, standIns := [], harness := (true, "548d63157fb89d7fbef8ae9101512b1ee01e269ba596a308e2aa6bab7dc7317c"), looks := true }, kinds := [], alts := [], laidByText := true, laidKinds := [.data, .data, .data, .data, .data, .sentinel, .sentinel, .pinned, .pinned, .pinned], laidTests := true, laidLooks := .later }
def FnExactUptoCardSaid : Prop := Claim7.holds Tryz.pinned (.plain (OpenSpec.upto fnExactSpec)) fnExactUptoCard

/-- THE SECOND FORM's CARD OF 'laws.FnExactShortest'. -/
def fnExactShortestUptoCard : Claim7 := { stood := { row := fnExactShortestUptoRow, standIns := [], harness := (true, "548d63157fb89d7fbef8ae9101512b1ee01e269ba596a308e2aa6bab7dc7317c"), looks := true }, kinds := [], alts := [], laidByText := true, laidKinds := [.data, .data, .data, .data, .data, .sentinel, .sentinel, .pinned, .pinned, .pinned], laidTests := true, laidLooks := .later }
def FnExactShortestUptoCardSaid : Prop := Claim7.holds Tryz.pinned (.plain (OpenSpec.upto fnExactShortestSpec)) fnExactShortestUptoCard

/-- THE SECOND FORM's CARD OF 'laws.FnExactScan'. -/
def fnExactScanUptoCard : Claim7 := { stood := { row := fnExactScanUptoRow, standIns := [], harness := (true, "548d63157fb89d7fbef8ae9101512b1ee01e269ba596a308e2aa6bab7dc7317c"), looks := true }, kinds := [], alts := [], laidByText := true, laidKinds := [.data, .data, .widerDeep, .widerDeep, .data, .data, .data, .data, .data, .data, .sentinel, .sentinel, .pinned, .pinned, .pinned], laidTests := true, laidLooks := .later }
def FnExactScanUptoCardSaid : Prop := Claim7.holds Tryz.pinned (.plain (OpenSpec.upto fnExactScanSpec)) fnExactScanUptoCard

/-- THE SECOND FORM's CARD OF 'laws.FnExactShowNumber'. -/
def fnExactShowNumberUptoCard : Claim7 := { stood := { row := fnExactShowNumberUptoRow, standIns := [], harness := (true, "548d63157fb89d7fbef8ae9101512b1ee01e269ba596a308e2aa6bab7dc7317c"), looks := true }, kinds := [], alts := [], laidByText := true, laidKinds := [.data, .data, .data, .data, .data, .sentinel, .sentinel, .pinned, .pinned, .pinned], laidTests := true, laidLooks := .later }
def FnExactShowNumberUptoCardSaid : Prop := Claim7.holds Tryz.pinned (.plain (OpenSpec.upto fnExactShowNumberSpec)) fnExactShowNumberUptoCard

/-- THE SECOND FORM's CARD OF 'laws.FnTokens'. -/
def fnTokensUptoCard : Claim7 := { stood := { row := fnTokensUptoRow, standIns := [], harness := (true, "548d63157fb89d7fbef8ae9101512b1ee01e269ba596a308e2aa6bab7dc7317c"), looks := true }, kinds := [], alts := [], laidByText := true, laidKinds := [.data, .data, .widerDeep, .widerDeep, .data, .data, .data, .data, .data, .data, .sentinel, .sentinel, .pinned, .pinned, .pinned], laidTests := true, laidLooks := .later }
def FnTokensUptoCardSaid : Prop := Claim7.holds Tryz.pinned (.plain (OpenSpec.upto fnTokensSpec)) fnTokensUptoCard

/-- THE SECOND FORM's CARD OF 'laws.FnShows'. -/
def fnShowsUptoCard : Claim7 := { stood := { row := fnShowsUptoRow, standIns := [], harness := (true, "548d63157fb89d7fbef8ae9101512b1ee01e269ba596a308e2aa6bab7dc7317c"), looks := true }, kinds := [], alts := [], laidByText := true, laidKinds := [.data, .data, .widerDeep, .widerDeep, .data, .data, .data, .data, .data, .data, .sentinel, .sentinel, .pinned, .pinned, .pinned], laidTests := true, laidLooks := .later }
def FnShowsUptoCardSaid : Prop := Claim7.holds Tryz.pinned (.plain (OpenSpec.upto fnShowsSpec)) fnShowsUptoCard

/-- THE SECOND FORM's CARD OF 'laws.FnShortest'. -/
def fnShortestUptoCard : Claim7 := { stood := { row := fnShortestUptoRow, standIns := [], harness := (true, "548d63157fb89d7fbef8ae9101512b1ee01e269ba596a308e2aa6bab7dc7317c"), looks := true }, kinds := [], alts := [], laidByText := true, laidKinds := [.data, .data, .widerDeep, .widerDeep, .data, .data, .data, .data, .data, .data, .sentinel, .sentinel, .pinned, .pinned, .pinned], laidTests := true, laidLooks := .later }
def FnShortestUptoCardSaid : Prop := Claim7.holds Tryz.pinned (.plain (OpenSpec.upto fnShortestSpec)) fnShortestUptoCard
end Rows
end Go.Proofs.YtkjpelgdppmbjaaGreatDoor
