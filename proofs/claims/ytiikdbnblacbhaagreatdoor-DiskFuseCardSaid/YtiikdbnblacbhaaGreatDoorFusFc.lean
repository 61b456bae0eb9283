/- Closed facts of the row of DiskFuse; on no condition. -/
import Derived.Test.YtiikdbnblacbhaaGreatDoorTie
import Derived.Test.YtiikdbnblacbhaaGreatDoorCards
import Derived.SevenTiedAt
import Derived.KernelRfl
set_option linter.unusedVariables false
set_option linter.unusedSimpArgs false
set_option linter.unusedSectionVars false
namespace Go.Proofs.YtiikdbnblacbhaaGreatDoor
open Go Go.Proofs
theorem diskFuseF2 : (mapsRowed Tryz.prog) = true := by kernel_rfl
theorem diskFuseF5 : ((Rows.diskFuseRow.stops == [])) = true := by kernel_rfl
theorem diskFuseF8 : ((Tryz.prog.stopKnobs == [])) = true := by kernel_rfl
theorem diskFuseF11 : ((Rows.diskFuseRow.recurses == Tryz.prog.recurses 7)) = true := by kernel_rfl
theorem diskFuseF14 : ((Rows.diskFuseRow.ifaces == (Tryz.f7.params.toList ++ Rows.diskFuseSpec.plain.varTypes Tryz.prog).any (Tryz.prog.ifacesRec ·))) = true := by kernel_rfl
theorem diskFuseF17 : ((Rows.diskFuseRow.wideKeys == (Tryz.f7.params.toList ++ Rows.diskFuseSpec.plain.varTypes Tryz.prog ++ Tryz.f7.resultTypes.toList).any (Tryz.prog.wideKeysFrom ·))) = true := by kernel_rfl
theorem diskFuseF20 : ((Rows.diskFuseRow.ifacesOut == Tryz.f7.resultTypes.toList.any (Tryz.prog.ifacesRec ·))) = true := by kernel_rfl
theorem diskFuseF23 : (Rows.diskFuseRow.shortTexts.isNone) = true := by kernel_rfl
theorem diskFuseF26 : ((Rows.diskFuseRow.lifted == Tryz.prog.liftsFinal)) = true := by kernel_rfl
theorem diskFuseF29 : ((Rows.diskFuseRow.pinned == Rows.diskFuseRow.pinnedBy)) = true := by kernel_rfl
theorem diskFuseNamed : Tryz.prog.funcNamed "colporteur/colporteurlaw13.DiskFuse" = some 7 := by kernel_rfl
theorem diskFuseByText : Rows.diskFuseRow.wfByText (OpenSpec.ofChange Rows.diskFuseSpec) = true := by kernel_rfl
theorem diskFuseGoes : false = Rows.diskFuseRow.goesBy Tryz.prog := by kernel_rfl
end Go.Proofs.YtiikdbnblacbhaaGreatDoor
