/- Facts of the row of FnShortest, closed, in parts: this session's own text. -/
import Derived.Test.YtkjpelgdppmbjaaGreatDoorRows
import Derived.ProofKit
import Derived.WalkKit
namespace Go.Proofs.YtkjpelgdppmbjaaGreatDoor.fnShortest
open Go Go.ChangeShapes Go.WideShapes Go.ChangeAt Go.RowKit
theorem part0 : (Rows.fnShortestRow.wf (OpenSpec.ofChange Rows.fnShortestSpec)) = true := by kernel_rfl
theorem part1 : (laidOutB Tryz.prog) = true := by kernel_rfl
theorem part2 : (mapsRowed Tryz.prog) = true := by kernel_rfl
theorem part3 : (Tryz.f11.params.all (Tryz.prog.readableRec ·)) = true := by kernel_rfl
theorem part4 : (namedTie Tryz.prog Rows.fnShortestRow.named Rows.fnShortestSpec.vars) = true := by kernel_rfl
theorem part5 : ((Rows.fnShortestRow.stops == [])) = true := by kernel_rfl
theorem part6 : ((Tryz.prog.stops == [])) = true := by kernel_rfl
theorem part7 : ((Rows.fnShortestRow.knobs == [])) = true := by kernel_rfl
theorem part8 : ((Tryz.prog.stopKnobs == [])) = true := by kernel_rfl
theorem part13 : ((Rows.fnShortestRow.maps == (Tryz.f11.params.toList ++ Rows.fnShortestSpec.plain.varTypes Tryz.prog).any (Tryz.prog.mapsRec ·))) = true := by kernel_rfl
theorem part14 : ((Rows.fnShortestRow.ifaces == (Tryz.f11.params.toList ++ Rows.fnShortestSpec.plain.varTypes Tryz.prog).any (Tryz.prog.ifacesRec ·))) = true := by kernel_rfl
theorem part15 : ((Rows.fnShortestRow.mapsOut == Tryz.prog.mapsAmong Tryz.f11.resultTypes.toList)) = true := by kernel_rfl
theorem part16 : ((Rows.fnShortestRow.loops == (Tryz.f11.params.toList ++ Rows.fnShortestSpec.plain.varTypes Tryz.prog).any (Tryz.prog.loopsFrom ·))) = true := by kernel_rfl
theorem part17 : ((Rows.fnShortestRow.wideKeys == (Tryz.f11.params.toList ++ Rows.fnShortestSpec.plain.varTypes Tryz.prog ++ Tryz.f11.resultTypes.toList).any (Tryz.prog.wideKeysFrom ·))) = true := by kernel_rfl
theorem part18 : (Rows.fnShortestSpec.vars.all (Tryz.prog.varReadable ·)) = true := by kernel_rfl
theorem part19 : (Tryz.f11.resultTypes.all (fun t => Tryz.prog.readableRec t && decide (t < Tryz.prog.types.size))) = true := by kernel_rfl
theorem part20 : ((Rows.fnShortestRow.ifacesOut == Tryz.f11.resultTypes.toList.any (Tryz.prog.ifacesRec ·))) = true := by kernel_rfl
theorem part21 : ((Rows.fnShortestRow.loopsOut == Tryz.f11.resultTypes.toList.any (Tryz.prog.loopsFrom ·))) = true := by kernel_rfl
theorem part22 : ((Rows.fnShortestRow.plainKeys == Tryz.prog.plainKeys)) = true := by kernel_rfl
theorem part23 : (Rows.fnShortestRow.shortTexts.isNone) = true := by kernel_rfl
theorem part24 : (Tryz.prog.stopsHeard) = true := by kernel_rfl
end Go.Proofs.YtkjpelgdppmbjaaGreatDoor.fnShortest
