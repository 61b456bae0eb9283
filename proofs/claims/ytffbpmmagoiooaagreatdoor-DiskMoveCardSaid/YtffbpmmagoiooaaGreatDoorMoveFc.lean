/- Closed facts of the row of DiskMove; on no condition. -/
import Derived.Test.YtffbpmmagoiooaaGreatDoorTie
import Derived.Test.YtffbpmmagoiooaaGreatDoorCards
import Derived.SevenTiedAt
import Derived.KernelRfl
set_option linter.unusedVariables false
set_option linter.unusedSimpArgs false
set_option linter.unusedSectionVars false
namespace Go.Proofs.YtffbpmmagoiooaaGreatDoor
open Go Go.Proofs
theorem diskMoveF2 : (mapsRowed Tryz.prog) = true := by kernel_rfl
theorem diskMoveF5 : ((Rows.diskMoveRow.stops == [])) = true := by kernel_rfl
theorem diskMoveF8 : ((Tryz.prog.stopKnobs == [])) = true := by kernel_rfl
theorem diskMoveF11 : ((Rows.diskMoveRow.recurses == Tryz.prog.recurses 4)) = true := by kernel_rfl
theorem diskMoveF14 : ((Rows.diskMoveRow.ifaces == (Tryz.f4.params.toList ++ Rows.diskMoveSpec.plain.varTypes Tryz.prog).any (Tryz.prog.ifacesRec ·))) = true := by kernel_rfl
theorem diskMoveF17 : ((Rows.diskMoveRow.wideKeys == (Tryz.f4.params.toList ++ Rows.diskMoveSpec.plain.varTypes Tryz.prog ++ Tryz.f4.resultTypes.toList).any (Tryz.prog.wideKeysFrom ·))) = true := by kernel_rfl
theorem diskMoveF20 : ((Rows.diskMoveRow.ifacesOut == Tryz.f4.resultTypes.toList.any (Tryz.prog.ifacesRec ·))) = true := by kernel_rfl
theorem diskMoveF23 : (Rows.diskMoveRow.shortTexts.isNone) = true := by kernel_rfl
theorem diskMoveF26 : ((Rows.diskMoveRow.lifted == Tryz.prog.liftsFinal)) = true := by kernel_rfl
theorem diskMoveF29 : ((Rows.diskMoveRow.pinned == Rows.diskMoveRow.pinnedBy)) = true := by kernel_rfl
theorem diskMoveNamed : Tryz.prog.funcNamed "colporteur/colporteurlaw13.DiskMove" = some 4 := by kernel_rfl
theorem diskMoveByText : Rows.diskMoveRow.wfByText (OpenSpec.ofChange Rows.diskMoveSpec) = true := by kernel_rfl
theorem diskMoveGoes : false = Rows.diskMoveRow.goesBy Tryz.prog := by kernel_rfl
end Go.Proofs.YtffbpmmagoiooaaGreatDoor
