/- Closed facts of the row; on no condition. -/
import Derived.Test.YtiikdbnblacbhaaGreatDoorTie
import Derived.Test.YtiikdbnblacbhaaGreatDoorCards
import Derived.SevenTiedAt
import Derived.KernelRfl
set_option linter.unusedVariables false
set_option linter.unusedSimpArgs false
set_option linter.unusedSectionVars false
namespace Go.Proofs.YtiikdbnblacbhaaGreatDoor
open Go Go.Proofs
theorem storeManyF2 : (mapsRowed Tryz.prog) = true := by kernel_rfl
theorem storeManyF5 : ((Rows.storeManyRow.stops == [])) = true := by kernel_rfl
theorem storeManyF8 : ((Tryz.prog.stopKnobs == [])) = true := by kernel_rfl
theorem storeManyF11 : ((Rows.storeManyRow.recurses == Tryz.prog.recurses 5)) = true := by kernel_rfl
theorem storeManyF14 : ((Rows.storeManyRow.ifaces == (Tryz.f5.params.toList ++ Rows.storeManySpec.plain.varTypes Tryz.prog).any (Tryz.prog.ifacesRec ·))) = true := by kernel_rfl
theorem storeManyF17 : ((Rows.storeManyRow.wideKeys == (Tryz.f5.params.toList ++ Rows.storeManySpec.plain.varTypes Tryz.prog ++ Tryz.f5.resultTypes.toList).any (Tryz.prog.wideKeysFrom ·))) = true := by kernel_rfl
theorem storeManyF20 : ((Rows.storeManyRow.ifacesOut == Tryz.f5.resultTypes.toList.any (Tryz.prog.ifacesRec ·))) = true := by kernel_rfl
theorem storeManyF23 : (Rows.storeManyRow.shortTexts.isNone) = true := by kernel_rfl
theorem storeManyF26 : ((Rows.storeManyRow.lifted == Tryz.prog.liftsFinal)) = true := by kernel_rfl
theorem storeManyF29 : ((Rows.storeManyRow.pinned == Rows.storeManyRow.pinnedBy)) = true := by kernel_rfl
theorem storeManyNamed : Tryz.prog.funcNamed "colporteur/colporteurlaw13.StoreMany" = some 5 := by kernel_rfl
theorem storeManyByText : Rows.storeManyRow.wfByText (OpenSpec.ofChange Rows.storeManySpec) = true := by kernel_rfl
theorem storeManyGoes : false = Rows.storeManyRow.goesBy Tryz.prog := by kernel_rfl
end Go.Proofs.YtiikdbnblacbhaaGreatDoor
