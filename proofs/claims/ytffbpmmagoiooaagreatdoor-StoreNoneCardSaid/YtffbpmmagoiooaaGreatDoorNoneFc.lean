/- Closed facts of the row of StoreNone; on no condition. -/
import Derived.Test.YtffbpmmagoiooaaGreatDoorTie
import Derived.Test.YtffbpmmagoiooaaGreatDoorCards
import Derived.SevenTiedAt
import Derived.KernelRfl
set_option linter.unusedVariables false
set_option linter.unusedSimpArgs false
namespace Go.Proofs.YtffbpmmagoiooaaGreatDoor
open Go Go.Proofs
theorem storeNoneF2 : (mapsRowed Tryz.prog) = true := by kernel_rfl
theorem storeNoneF5 : ((Rows.storeNoneRow.stops == [])) = true := by kernel_rfl
theorem storeNoneF8 : ((Tryz.prog.stopKnobs == [])) = true := by kernel_rfl
theorem storeNoneF11 : ((Rows.storeNoneRow.recurses == Tryz.prog.recurses 12)) = true := by kernel_rfl
theorem storeNoneF14 : ((Rows.storeNoneRow.ifaces == (Tryz.f12.params.toList ++ Rows.storeNoneSpec.plain.varTypes Tryz.prog).any (Tryz.prog.ifacesRec ·))) = true := by kernel_rfl
theorem storeNoneF17 : ((Rows.storeNoneRow.wideKeys == (Tryz.f12.params.toList ++ Rows.storeNoneSpec.plain.varTypes Tryz.prog ++ Tryz.f12.resultTypes.toList).any (Tryz.prog.wideKeysFrom ·))) = true := by kernel_rfl
theorem storeNoneF20 : ((Rows.storeNoneRow.ifacesOut == Tryz.f12.resultTypes.toList.any (Tryz.prog.ifacesRec ·))) = true := by kernel_rfl
theorem storeNoneF23 : (Rows.storeNoneRow.shortTexts.isNone) = true := by kernel_rfl
theorem storeNoneF26 : ((Rows.storeNoneRow.lifted == Tryz.prog.liftsFinal)) = true := by kernel_rfl
theorem storeNoneF29 : ((Rows.storeNoneRow.pinned == Rows.storeNoneRow.pinnedBy)) = true := by kernel_rfl
theorem storeNoneNamed : Tryz.prog.funcNamed "colporteur/colporteurlaw13.StoreNone" = some 12 := by kernel_rfl
theorem storeNoneByText : Rows.storeNoneRow.wfByText (OpenSpec.ofChange Rows.storeNoneSpec) = true := by kernel_rfl
theorem storeNoneGoes : false = Rows.storeNoneRow.goesBy Tryz.prog := by kernel_rfl
end Go.Proofs.YtffbpmmagoiooaaGreatDoor
