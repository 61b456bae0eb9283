/- Closed facts of the row of ServeNone; on no condition. -/
import Derived.Test.YtdimdhloklnkmaaGreatDoorTie
import Derived.Test.YtdimdhloklnkmaaGreatDoorCards
import Derived.SevenTiedAt
import Derived.KernelRfl
import Derived.Test.YtdimdhloklnkmaaGreatDoorNg
set_option linter.unusedVariables false
set_option linter.unusedSimpArgs false
set_option linter.unusedSectionVars false
namespace Go.Proofs.YtdimdhloklnkmaaGreatDoor
open Go Go.Proofs
theorem serveNoneF2 : (mapsRowed Tryz.prog) = true := by kernel_rfl
theorem serveNoneF5 : ((Rows.serveNoneRow.stops == [])) = true := by kernel_rfl
theorem serveNoneF8 : ((Tryz.prog.stopKnobs == [])) = true := by kernel_rfl
theorem serveNoneF11 : ((Rows.serveNoneRow.recurses == Tryz.prog.recurses 3)) = true := by kernel_rfl
theorem serveNoneF14 : ((Rows.serveNoneRow.ifaces == (Tryz.f3.params.toList ++ Rows.serveNoneSpec.plain.varTypes Tryz.prog).any (Tryz.prog.ifacesRec ·))) = true := by kernel_rfl
theorem serveNoneF17 : ((Rows.serveNoneRow.wideKeys == (Tryz.f3.params.toList ++ Rows.serveNoneSpec.plain.varTypes Tryz.prog ++ Tryz.f3.resultTypes.toList).any (Tryz.prog.wideKeysFrom ·))) = true := by kernel_rfl
theorem serveNoneF20 : ((Rows.serveNoneRow.ifacesOut == Tryz.f3.resultTypes.toList.any (Tryz.prog.ifacesRec ·))) = true := by kernel_rfl
theorem serveNoneF23 : (Rows.serveNoneRow.shortTexts.isNone) = true := by kernel_rfl
theorem serveNoneF26 : ((Rows.serveNoneRow.lifted == Tryz.prog.liftsFinal)) = true := by kernel_rfl
theorem serveNoneF29 : ((Rows.serveNoneRow.pinned == Rows.serveNoneRow.pinnedBy)) = true := by kernel_rfl
theorem serveNoneNamed : Tryz.prog.funcNamed "colporteur/colporteurlaw19.ServeNone" = some 3 := by kernel_rfl
theorem serveNoneByText : Rows.serveNoneRow.wfByText (OpenSpec.ofChange Rows.serveNoneSpec) = true := by kernel_rfl
theorem serveNoneGoes : false = Rows.serveNoneRow.goesBy Tryz.prog := Tz.goesBy_none Tz.noGo
end Go.Proofs.YtdimdhloklnkmaaGreatDoor
