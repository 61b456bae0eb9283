/- Closed facts of the row of FilterDepth; on no condition. -/
import Derived.Test.YtnnfledihhiaiaaGreatDoorTie
import Derived.Test.YtnnfledihhiaiaaGreatDoorCards
import Derived.SevenTiedAt
import Derived.KernelRfl
set_option linter.unusedVariables false
set_option linter.unusedSimpArgs false
set_option linter.unusedSectionVars false
namespace Go.Proofs.YtnnfledihhiaiaaGreatDoor
open Go Go.Proofs
theorem filterDepthF2 : (mapsRowed Tryz.prog) = true := by kernel_rfl
theorem filterDepthF5 : ((Rows.filterDepthRow.stops == [])) = true := by kernel_rfl
theorem filterDepthF8 : ((Tryz.prog.stopKnobs == [])) = true := by kernel_rfl
theorem filterDepthF11 : ((Rows.filterDepthRow.recurses == Tryz.prog.recurses 8)) = true := by kernel_rfl
theorem filterDepthF14 : ((Rows.filterDepthRow.ifaces == (Tryz.f8.params.toList ++ Rows.filterDepthSpec.plain.varTypes Tryz.prog).any (Tryz.prog.ifacesRec ·))) = true := by kernel_rfl
theorem filterDepthF17 : ((Rows.filterDepthRow.wideKeys == (Tryz.f8.params.toList ++ Rows.filterDepthSpec.plain.varTypes Tryz.prog ++ Tryz.f8.resultTypes.toList).any (Tryz.prog.wideKeysFrom ·))) = true := by kernel_rfl
theorem filterDepthF20 : ((Rows.filterDepthRow.ifacesOut == Tryz.f8.resultTypes.toList.any (Tryz.prog.ifacesRec ·))) = true := by kernel_rfl
theorem filterDepthF23 : (Rows.filterDepthRow.shortTexts.isNone) = true := by kernel_rfl
theorem filterDepthF26 : ((Rows.filterDepthRow.lifted == Tryz.prog.liftsFinal)) = true := by kernel_rfl
theorem filterDepthF29 : ((Rows.filterDepthRow.pinned == Rows.filterDepthRow.pinnedBy)) = true := by kernel_rfl
theorem filterDepthNamed : Tryz.prog.funcNamed "colporteur/colporteurlaw15.FilterDepth" = some 8 := by kernel_rfl
theorem filterDepthByText : Rows.filterDepthRow.wfByText (OpenSpec.ofChange Rows.filterDepthSpec) = true := by kernel_rfl
theorem filterDepthGoes : false = Rows.filterDepthRow.goesBy Tryz.prog := by kernel_rfl
end Go.Proofs.YtnnfledihhiaiaaGreatDoor
