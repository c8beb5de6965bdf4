/- Facts of the row of FnShows, closed, in parts: this session's own text. -/
import Derived.Test.YtkjpelgdppmbjaaGreatDoorRows
import Derived.ProofKit
import Derived.WalkKit
namespace Go.Proofs.YtkjpelgdppmbjaaGreatDoor.fnShows
open Go Go.ChangeShapes Go.WideShapes Go.ChangeAt Go.RowKit
theorem part0 : (Rows.fnShowsRow.wf (OpenSpec.ofChange Rows.fnShowsSpec)) = true := by kernel_rfl
theorem part1 : (laidOutB Tryz.prog) = true := by kernel_rfl
theorem part2 : (mapsRowed Tryz.prog) = true := by kernel_rfl
theorem part3 : (Tryz.f10.params.all (Tryz.prog.readableRec ·)) = true := by kernel_rfl
theorem part4 : (namedTie Tryz.prog Rows.fnShowsRow.named Rows.fnShowsSpec.vars) = true := by kernel_rfl
theorem part5 : ((Rows.fnShowsRow.stops == [])) = true := by kernel_rfl
theorem part6 : ((Tryz.prog.stops == [])) = true := by kernel_rfl
theorem part7 : ((Rows.fnShowsRow.knobs == [])) = true := by kernel_rfl
theorem part8 : ((Tryz.prog.stopKnobs == [])) = true := by kernel_rfl
theorem part13 : ((Rows.fnShowsRow.maps == (Tryz.f10.params.toList ++ Rows.fnShowsSpec.plain.varTypes Tryz.prog).any (Tryz.prog.mapsRec ·))) = true := by kernel_rfl
theorem part14 : ((Rows.fnShowsRow.ifaces == (Tryz.f10.params.toList ++ Rows.fnShowsSpec.plain.varTypes Tryz.prog).any (Tryz.prog.ifacesRec ·))) = true := by kernel_rfl
theorem part15 : ((Rows.fnShowsRow.mapsOut == Tryz.prog.mapsAmong Tryz.f10.resultTypes.toList)) = true := by kernel_rfl
theorem part16 : ((Rows.fnShowsRow.loops == (Tryz.f10.params.toList ++ Rows.fnShowsSpec.plain.varTypes Tryz.prog).any (Tryz.prog.loopsFrom ·))) = true := by kernel_rfl
theorem part17 : ((Rows.fnShowsRow.wideKeys == (Tryz.f10.params.toList ++ Rows.fnShowsSpec.plain.varTypes Tryz.prog ++ Tryz.f10.resultTypes.toList).any (Tryz.prog.wideKeysFrom ·))) = true := by kernel_rfl
theorem part18 : (Rows.fnShowsSpec.vars.all (Tryz.prog.varReadable ·)) = true := by kernel_rfl
theorem part19 : (Tryz.f10.resultTypes.all (fun t => Tryz.prog.readableRec t && decide (t < Tryz.prog.types.size))) = true := by kernel_rfl
theorem part20 : ((Rows.fnShowsRow.ifacesOut == Tryz.f10.resultTypes.toList.any (Tryz.prog.ifacesRec ·))) = true := by kernel_rfl
theorem part21 : ((Rows.fnShowsRow.loopsOut == Tryz.f10.resultTypes.toList.any (Tryz.prog.loopsFrom ·))) = true := by kernel_rfl
theorem part22 : ((Rows.fnShowsRow.plainKeys == Tryz.prog.plainKeys)) = true := by kernel_rfl
theorem part23 : (Rows.fnShowsRow.shortTexts.isNone) = true := by kernel_rfl
theorem part24 : (Tryz.prog.stopsHeard) = true := by kernel_rfl
end Go.Proofs.YtkjpelgdppmbjaaGreatDoor.fnShows
