/- Closed facts of the row of WantMost; on no condition. -/
import Derived.Test.YtdimdhloklnkmaaGreatDoorTie
import Derived.Test.YtdimdhloklnkmaaGreatDoorCards
import Derived.SevenTiedAt
import Derived.KernelRfl
import Derived.Test.YtdimdhloklnkmaaGreatDoorNg
set_option linter.unusedVariables false
set_option linter.unusedSimpArgs false
set_option linter.unusedSectionVars false
namespace Go.Proofs.YtdimdhloklnkmaaGreatDoor
open Go Go.Proofs
theorem wantMostF2 : (mapsRowed Tryz.prog) = true := by kernel_rfl
theorem wantMostF5 : ((Rows.wantMostRow.stops == [])) = true := by kernel_rfl
theorem wantMostF8 : ((Tryz.prog.stopKnobs == [])) = true := by kernel_rfl
theorem wantMostF11 : ((Rows.wantMostRow.recurses == Tryz.prog.recurses 4)) = true := by kernel_rfl
theorem wantMostF14 : ((Rows.wantMostRow.ifaces == (Tryz.f4.params.toList ++ Rows.wantMostSpec.plain.varTypes Tryz.prog).any (Tryz.prog.ifacesRec ·))) = true := by kernel_rfl
theorem wantMostF17 : ((Rows.wantMostRow.wideKeys == (Tryz.f4.params.toList ++ Rows.wantMostSpec.plain.varTypes Tryz.prog ++ Tryz.f4.resultTypes.toList).any (Tryz.prog.wideKeysFrom ·))) = true := by kernel_rfl
theorem wantMostF20 : ((Rows.wantMostRow.ifacesOut == Tryz.f4.resultTypes.toList.any (Tryz.prog.ifacesRec ·))) = true := by kernel_rfl
theorem wantMostF23 : (Rows.wantMostRow.shortTexts.isNone) = true := by kernel_rfl
theorem wantMostF26 : ((Rows.wantMostRow.lifted == Tryz.prog.liftsFinal)) = true := by kernel_rfl
theorem wantMostF29 : ((Rows.wantMostRow.pinned == Rows.wantMostRow.pinnedBy)) = true := by kernel_rfl
theorem wantMostNamed : Tryz.prog.funcNamed "colporteur/colporteurlaw19.WantMost" = some 4 := by kernel_rfl
theorem wantMostByText : Rows.wantMostRow.wfByText (OpenSpec.ofChange Rows.wantMostSpec) = true := by kernel_rfl
theorem wantMostGoes : false = Rows.wantMostRow.goesBy Tryz.prog := Tz.goesBy_none Tz.noGo
end Go.Proofs.YtdimdhloklnkmaaGreatDoor
