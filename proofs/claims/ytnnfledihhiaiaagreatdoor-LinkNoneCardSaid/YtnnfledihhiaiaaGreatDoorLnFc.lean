/- Closed facts of the row of LinkNone; on no condition. -/
import Derived.Test.YtnnfledihhiaiaaGreatDoorTie
import Derived.Test.YtnnfledihhiaiaaGreatDoorCards
import Derived.SevenTiedAt
import Derived.KernelRfl
set_option linter.unusedVariables false
set_option linter.unusedSimpArgs false
set_option linter.unusedSectionVars false
namespace Go.Proofs.YtnnfledihhiaiaaGreatDoor
open Go Go.Proofs
theorem linkNoneF2 : (mapsRowed Tryz.prog) = true := by kernel_rfl
theorem linkNoneF5 : ((Rows.linkNoneRow.stops == [])) = true := by kernel_rfl
theorem linkNoneF8 : ((Tryz.prog.stopKnobs == [])) = true := by kernel_rfl
theorem linkNoneF11 : ((Rows.linkNoneRow.recurses == Tryz.prog.recurses 3)) = true := by kernel_rfl
theorem linkNoneF14 : ((Rows.linkNoneRow.ifaces == (Tryz.f3.params.toList ++ Rows.linkNoneSpec.plain.varTypes Tryz.prog).any (Tryz.prog.ifacesRec ·))) = true := by kernel_rfl
theorem linkNoneF17 : ((Rows.linkNoneRow.wideKeys == (Tryz.f3.params.toList ++ Rows.linkNoneSpec.plain.varTypes Tryz.prog ++ Tryz.f3.resultTypes.toList).any (Tryz.prog.wideKeysFrom ·))) = true := by kernel_rfl
theorem linkNoneF20 : ((Rows.linkNoneRow.ifacesOut == Tryz.f3.resultTypes.toList.any (Tryz.prog.ifacesRec ·))) = true := by kernel_rfl
theorem linkNoneF23 : (Rows.linkNoneRow.shortTexts.isNone) = true := by kernel_rfl
theorem linkNoneF26 : ((Rows.linkNoneRow.lifted == Tryz.prog.liftsFinal)) = true := by kernel_rfl
theorem linkNoneF29 : ((Rows.linkNoneRow.pinned == Rows.linkNoneRow.pinnedBy)) = true := by kernel_rfl
theorem linkNoneNamed : Tryz.prog.funcNamed "colporteur/colporteurlaw15.LinkNone" = some 3 := by kernel_rfl
theorem linkNoneByText : Rows.linkNoneRow.wfByText (OpenSpec.ofChange Rows.linkNoneSpec) = true := by kernel_rfl
theorem linkNoneGoes : false = Rows.linkNoneRow.goesBy Tryz.prog := by kernel_rfl
end Go.Proofs.YtnnfledihhiaiaaGreatDoor
