/- Closed facts of the row of DepthTime; on no condition. -/
import Derived.Test.YtnnfledihhiaiaaGreatDoorTie
import Derived.Test.YtnnfledihhiaiaaGreatDoorCards
import Derived.SevenTiedAt
import Derived.KernelRfl
set_option linter.unusedVariables false
set_option linter.unusedSimpArgs false
set_option linter.unusedSectionVars false
namespace Go.Proofs.YtnnfledihhiaiaaGreatDoor
open Go Go.Proofs
theorem depthTimeF2 : (mapsRowed Tryz.prog) = true := by kernel_rfl
theorem depthTimeF5 : ((Rows.depthTimeRow.stops == [])) = true := by kernel_rfl
theorem depthTimeF8 : ((Tryz.prog.stopKnobs == [])) = true := by kernel_rfl
theorem depthTimeF11 : ((Rows.depthTimeRow.recurses == Tryz.prog.recurses 6)) = true := by kernel_rfl
theorem depthTimeF14 : ((Rows.depthTimeRow.ifaces == (Tryz.f6.params.toList ++ Rows.depthTimeSpec.plain.varTypes Tryz.prog).any (Tryz.prog.ifacesRec ·))) = true := by kernel_rfl
theorem depthTimeF17 : ((Rows.depthTimeRow.wideKeys == (Tryz.f6.params.toList ++ Rows.depthTimeSpec.plain.varTypes Tryz.prog ++ Tryz.f6.resultTypes.toList).any (Tryz.prog.wideKeysFrom ·))) = true := by kernel_rfl
theorem depthTimeF20 : ((Rows.depthTimeRow.ifacesOut == Tryz.f6.resultTypes.toList.any (Tryz.prog.ifacesRec ·))) = true := by kernel_rfl
theorem depthTimeF23 : (Rows.depthTimeRow.shortTexts.isNone) = true := by kernel_rfl
theorem depthTimeF26 : ((Rows.depthTimeRow.lifted == Tryz.prog.liftsFinal)) = true := by kernel_rfl
theorem depthTimeF29 : ((Rows.depthTimeRow.pinned == Rows.depthTimeRow.pinnedBy)) = true := by kernel_rfl
theorem depthTimeNamed : Tryz.prog.funcNamed "colporteur/colporteurlaw15.DepthTime" = some 6 := by kernel_rfl
theorem depthTimeByText : Rows.depthTimeRow.wfByText (OpenSpec.ofChange Rows.depthTimeSpec) = true := by kernel_rfl
theorem depthTimeGoes : false = Rows.depthTimeRow.goesBy Tryz.prog := by kernel_rfl
end Go.Proofs.YtnnfledihhiaiaaGreatDoor
