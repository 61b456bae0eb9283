/- Closed facts of the row of DiskAll; on no condition. -/
import Derived.Test.YtiikdbnblacbhaaGreatDoorTie
import Derived.Test.YtiikdbnblacbhaaGreatDoorCards
import Derived.SevenTiedAt
import Derived.KernelRfl
set_option linter.unusedVariables false
set_option linter.unusedSimpArgs false
set_option linter.unusedSectionVars false
namespace Go.Proofs.YtiikdbnblacbhaaGreatDoor
open Go Go.Proofs
theorem diskAllF2 : (mapsRowed Tryz.prog) = true := by kernel_rfl
theorem diskAllF5 : ((Rows.diskAllRow.stops == [])) = true := by kernel_rfl
theorem diskAllF8 : ((Tryz.prog.stopKnobs == [])) = true := by kernel_rfl
theorem diskAllF11 : ((Rows.diskAllRow.recurses == Tryz.prog.recurses 6)) = true := by kernel_rfl
theorem diskAllF14 : ((Rows.diskAllRow.ifaces == (Tryz.f6.params.toList ++ Rows.diskAllSpec.plain.varTypes Tryz.prog).any (Tryz.prog.ifacesRec ·))) = true := by kernel_rfl
theorem diskAllF17 : ((Rows.diskAllRow.wideKeys == (Tryz.f6.params.toList ++ Rows.diskAllSpec.plain.varTypes Tryz.prog ++ Tryz.f6.resultTypes.toList).any (Tryz.prog.wideKeysFrom ·))) = true := by kernel_rfl
theorem diskAllF20 : ((Rows.diskAllRow.ifacesOut == Tryz.f6.resultTypes.toList.any (Tryz.prog.ifacesRec ·))) = true := by kernel_rfl
theorem diskAllF23 : (Rows.diskAllRow.shortTexts.isNone) = true := by kernel_rfl
theorem diskAllF26 : ((Rows.diskAllRow.lifted == Tryz.prog.liftsFinal)) = true := by kernel_rfl
theorem diskAllF29 : ((Rows.diskAllRow.pinned == Rows.diskAllRow.pinnedBy)) = true := by kernel_rfl
theorem diskAllNamed : Tryz.prog.funcNamed "colporteur/colporteurlaw13.DiskAll" = some 6 := by kernel_rfl
theorem diskAllByText : Rows.diskAllRow.wfByText (OpenSpec.ofChange Rows.diskAllSpec) = true := by kernel_rfl
theorem diskAllGoes : false = Rows.diskAllRow.goesBy Tryz.prog := by kernel_rfl
end Go.Proofs.YtiikdbnblacbhaaGreatDoor
