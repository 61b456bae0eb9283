/- Closed facts of the row of ServeDepth; on no condition. -/
import Derived.Test.YtdimdhloklnkmaaGreatDoorTie
import Derived.Test.YtdimdhloklnkmaaGreatDoorCards
import Derived.SevenTiedAt
import Derived.KernelRfl
import Derived.Test.YtdimdhloklnkmaaGreatDoorNg
set_option linter.unusedVariables false
set_option linter.unusedSimpArgs false
set_option linter.unusedSectionVars false
namespace Go.Proofs.YtdimdhloklnkmaaGreatDoor
open Go Go.Proofs
theorem serveDepthF2 : (mapsRowed Tryz.prog) = true := by kernel_rfl
theorem serveDepthF5 : ((Rows.serveDepthRow.stops == [])) = true := by kernel_rfl
theorem serveDepthF8 : ((Tryz.prog.stopKnobs == [])) = true := by kernel_rfl
theorem serveDepthF11 : ((Rows.serveDepthRow.recurses == Tryz.prog.recurses 5)) = true := by kernel_rfl
theorem serveDepthF14 : ((Rows.serveDepthRow.ifaces == (Tryz.f5.params.toList ++ Rows.serveDepthSpec.plain.varTypes Tryz.prog).any (Tryz.prog.ifacesRec ·))) = true := by kernel_rfl
theorem serveDepthF17 : ((Rows.serveDepthRow.wideKeys == (Tryz.f5.params.toList ++ Rows.serveDepthSpec.plain.varTypes Tryz.prog ++ Tryz.f5.resultTypes.toList).any (Tryz.prog.wideKeysFrom ·))) = true := by kernel_rfl
theorem serveDepthF20 : ((Rows.serveDepthRow.ifacesOut == Tryz.f5.resultTypes.toList.any (Tryz.prog.ifacesRec ·))) = true := by kernel_rfl
theorem serveDepthF23 : (Rows.serveDepthRow.shortTexts.isNone) = true := by kernel_rfl
theorem serveDepthF26 : ((Rows.serveDepthRow.lifted == Tryz.prog.liftsFinal)) = true := by kernel_rfl
theorem serveDepthF29 : ((Rows.serveDepthRow.pinned == Rows.serveDepthRow.pinnedBy)) = true := by kernel_rfl
theorem serveDepthNamed : Tryz.prog.funcNamed "colporteur/colporteurlaw19.ServeDepth" = some 5 := by kernel_rfl
theorem serveDepthByText : Rows.serveDepthRow.wfByText (OpenSpec.ofChange Rows.serveDepthSpec) = true := by kernel_rfl
theorem serveDepthGoes : false = Rows.serveDepthRow.goesBy Tryz.prog := Tz.goesBy_none Tz.noGo
end Go.Proofs.YtdimdhloklnkmaaGreatDoor
