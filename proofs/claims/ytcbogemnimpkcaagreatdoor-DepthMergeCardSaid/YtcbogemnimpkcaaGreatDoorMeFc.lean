/- Closed facts of the row of DepthMerge; on no condition. -/
import Derived.Test.YtcbogemnimpkcaaGreatDoorTie
import Derived.Test.YtcbogemnimpkcaaGreatDoorCards
import Derived.SevenTiedAt
import Derived.KernelRfl
set_option linter.unusedVariables false
set_option linter.unusedSimpArgs false
set_option linter.unusedSectionVars false
namespace Go.Proofs.YtcbogemnimpkcaaGreatDoor
open Go Go.Proofs
theorem depthMergeF2 : (mapsRowed Tryz.prog) = true := by kernel_rfl
theorem depthMergeF5 : ((Rows.depthMergeRow.stops == [])) = true := by kernel_rfl
theorem depthMergeF8 : ((Tryz.prog.stopKnobs == [])) = true := by kernel_rfl
theorem depthMergeF11 : ((Rows.depthMergeRow.recurses == Tryz.prog.recurses 3)) = true := by kernel_rfl
theorem depthMergeF14 : ((Rows.depthMergeRow.ifaces == (Tryz.f3.params.toList ++ Rows.depthMergeSpec.plain.varTypes Tryz.prog).any (Tryz.prog.ifacesRec ·))) = true := by kernel_rfl
theorem depthMergeF17 : ((Rows.depthMergeRow.wideKeys == (Tryz.f3.params.toList ++ Rows.depthMergeSpec.plain.varTypes Tryz.prog ++ Tryz.f3.resultTypes.toList).any (Tryz.prog.wideKeysFrom ·))) = true := by kernel_rfl
theorem depthMergeF20 : ((Rows.depthMergeRow.ifacesOut == Tryz.f3.resultTypes.toList.any (Tryz.prog.ifacesRec ·))) = true := by kernel_rfl
theorem depthMergeF23 : (Rows.depthMergeRow.shortTexts.isNone) = true := by kernel_rfl
theorem depthMergeF26 : ((Rows.depthMergeRow.lifted == Tryz.prog.liftsFinal)) = true := by kernel_rfl
theorem depthMergeF29 : ((Rows.depthMergeRow.pinned == Rows.depthMergeRow.pinnedBy)) = true := by kernel_rfl
theorem depthMergeNamed : Tryz.prog.funcNamed "colporteur/colporteurlaw15.DepthMerge" = some 3 := by kernel_rfl
theorem depthMergeByText : Rows.depthMergeRow.wfByText (OpenSpec.ofChange Rows.depthMergeSpec) = true := by kernel_rfl
theorem depthMergeGoes : false = Rows.depthMergeRow.goesBy Tryz.prog := by kernel_rfl
end Go.Proofs.YtcbogemnimpkcaaGreatDoor
