/- Closed facts of the row of FilterLimit; on no condition. -/
import Derived.Test.YtnnfledihhiaiaaGreatDoorTie
import Derived.Test.YtnnfledihhiaiaaGreatDoorCards
import Derived.SevenTiedAt
import Derived.KernelRfl
set_option linter.unusedVariables false
set_option linter.unusedSimpArgs false
set_option linter.unusedSectionVars false
namespace Go.Proofs.YtnnfledihhiaiaaGreatDoor
open Go Go.Proofs
theorem filterLimitF2 : (mapsRowed Tryz.prog) = true := by kernel_rfl
theorem filterLimitF5 : ((Rows.filterLimitRow.stops == [])) = true := by kernel_rfl
theorem filterLimitF8 : ((Tryz.prog.stopKnobs == [])) = true := by kernel_rfl
theorem filterLimitF11 : ((Rows.filterLimitRow.recurses == Tryz.prog.recurses 9)) = true := by kernel_rfl
theorem filterLimitF14 : ((Rows.filterLimitRow.ifaces == (Tryz.f9.params.toList ++ Rows.filterLimitSpec.plain.varTypes Tryz.prog).any (Tryz.prog.ifacesRec ·))) = true := by kernel_rfl
theorem filterLimitF17 : ((Rows.filterLimitRow.wideKeys == (Tryz.f9.params.toList ++ Rows.filterLimitSpec.plain.varTypes Tryz.prog ++ Tryz.f9.resultTypes.toList).any (Tryz.prog.wideKeysFrom ·))) = true := by kernel_rfl
theorem filterLimitF20 : ((Rows.filterLimitRow.ifacesOut == Tryz.f9.resultTypes.toList.any (Tryz.prog.ifacesRec ·))) = true := by kernel_rfl
theorem filterLimitF23 : (Rows.filterLimitRow.shortTexts.isNone) = true := by kernel_rfl
theorem filterLimitF26 : ((Rows.filterLimitRow.lifted == Tryz.prog.liftsFinal)) = true := by kernel_rfl
theorem filterLimitF29 : ((Rows.filterLimitRow.pinned == Rows.filterLimitRow.pinnedBy)) = true := by kernel_rfl
theorem filterLimitNamed : Tryz.prog.funcNamed "colporteur/colporteurlaw15.FilterLimit" = some 9 := by kernel_rfl
theorem filterLimitByText : Rows.filterLimitRow.wfByText (OpenSpec.ofChange Rows.filterLimitSpec) = true := by kernel_rfl
theorem filterLimitGoes : false = Rows.filterLimitRow.goesBy Tryz.prog := by kernel_rfl
end Go.Proofs.YtnnfledihhiaiaaGreatDoor
