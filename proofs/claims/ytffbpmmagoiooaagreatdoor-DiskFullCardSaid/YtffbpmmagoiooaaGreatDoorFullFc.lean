/- Closed facts of the row of DiskFull; on no condition. -/
import Derived.Test.YtffbpmmagoiooaaGreatDoorTie
import Derived.Test.YtffbpmmagoiooaaGreatDoorCards
import Derived.SevenTiedAt
import Derived.KernelRfl
set_option linter.unusedVariables false
set_option linter.unusedSimpArgs false
namespace Go.Proofs.YtffbpmmagoiooaaGreatDoor
open Go Go.Proofs
theorem diskFullF2 : (mapsRowed Tryz.prog) = true := by kernel_rfl
theorem diskFullF5 : ((Rows.diskFullRow.stops == [])) = true := by kernel_rfl
theorem diskFullF8 : ((Tryz.prog.stopKnobs == [])) = true := by kernel_rfl
theorem diskFullF11 : ((Rows.diskFullRow.recurses == Tryz.prog.recurses 3)) = true := by kernel_rfl
theorem diskFullF14 : ((Rows.diskFullRow.ifaces == (Tryz.f3.params.toList ++ Rows.diskFullSpec.plain.varTypes Tryz.prog).any (Tryz.prog.ifacesRec ·))) = true := by kernel_rfl
theorem diskFullF17 : ((Rows.diskFullRow.wideKeys == (Tryz.f3.params.toList ++ Rows.diskFullSpec.plain.varTypes Tryz.prog ++ Tryz.f3.resultTypes.toList).any (Tryz.prog.wideKeysFrom ·))) = true := by kernel_rfl
theorem diskFullF20 : ((Rows.diskFullRow.ifacesOut == Tryz.f3.resultTypes.toList.any (Tryz.prog.ifacesRec ·))) = true := by kernel_rfl
theorem diskFullF23 : (Rows.diskFullRow.shortTexts.isNone) = true := by kernel_rfl
theorem diskFullF26 : ((Rows.diskFullRow.lifted == Tryz.prog.liftsFinal)) = true := by kernel_rfl
theorem diskFullF29 : ((Rows.diskFullRow.pinned == Rows.diskFullRow.pinnedBy)) = true := by kernel_rfl
theorem diskFullNamed : Tryz.prog.funcNamed "colporteur/colporteurlaw13.DiskFull" = some 3 := by kernel_rfl
theorem diskFullByText : Rows.diskFullRow.wfByText (OpenSpec.ofChange Rows.diskFullSpec) = true := by kernel_rfl
theorem diskFullGoes : false = Rows.diskFullRow.goesBy Tryz.prog := by kernel_rfl
end Go.Proofs.YtffbpmmagoiooaaGreatDoor
