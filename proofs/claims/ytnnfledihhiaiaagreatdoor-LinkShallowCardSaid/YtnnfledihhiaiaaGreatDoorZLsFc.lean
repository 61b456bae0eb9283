/- Closed facts of the row of LinkShallow; on no condition. -/
import Derived.Test.YtnnfledihhiaiaaGreatDoorTie
import Derived.Test.YtnnfledihhiaiaaGreatDoorCards
import Derived.SevenTiedAt
import Derived.KernelRfl
set_option linter.unusedVariables false
set_option linter.unusedSimpArgs false
set_option linter.unusedSectionVars false
namespace Go.Proofs.YtnnfledihhiaiaaGreatDoor
open Go Go.Proofs
theorem linkShallowF2 : (mapsRowed Tryz.prog) = true := by kernel_rfl
theorem linkShallowF5 : ((Rows.linkShallowRow.stops == [])) = true := by kernel_rfl
theorem linkShallowF8 : ((Tryz.prog.stopKnobs == [])) = true := by kernel_rfl
theorem linkShallowF11 : ((Rows.linkShallowRow.recurses == Tryz.prog.recurses 10)) = true := by kernel_rfl
theorem linkShallowF14 : ((Rows.linkShallowRow.ifaces == (Tryz.f10.params.toList ++ Rows.linkShallowSpec.plain.varTypes Tryz.prog).any (Tryz.prog.ifacesRec ·))) = true := by kernel_rfl
theorem linkShallowF17 : ((Rows.linkShallowRow.wideKeys == (Tryz.f10.params.toList ++ Rows.linkShallowSpec.plain.varTypes Tryz.prog ++ Tryz.f10.resultTypes.toList).any (Tryz.prog.wideKeysFrom ·))) = true := by kernel_rfl
theorem linkShallowF20 : ((Rows.linkShallowRow.ifacesOut == Tryz.f10.resultTypes.toList.any (Tryz.prog.ifacesRec ·))) = true := by kernel_rfl
theorem linkShallowF23 : (Rows.linkShallowRow.shortTexts.isNone) = true := by kernel_rfl
theorem linkShallowF26 : ((Rows.linkShallowRow.lifted == Tryz.prog.liftsFinal)) = true := by kernel_rfl
theorem linkShallowF29 : ((Rows.linkShallowRow.pinned == Rows.linkShallowRow.pinnedBy)) = true := by kernel_rfl
theorem linkShallowNamed : Tryz.prog.funcNamed "colporteur/colporteurlaw15.LinkShallow" = some 10 := by kernel_rfl
theorem linkShallowByText : Rows.linkShallowRow.wfByText (OpenSpec.ofChange Rows.linkShallowSpec) = true := by kernel_rfl
theorem linkShallowGoes : false = Rows.linkShallowRow.goesBy Tryz.prog := by kernel_rfl
end Go.Proofs.YtnnfledihhiaiaaGreatDoor
