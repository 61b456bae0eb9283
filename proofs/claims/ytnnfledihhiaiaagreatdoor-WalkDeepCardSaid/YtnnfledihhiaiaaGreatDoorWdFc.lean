/- Closed facts of the row of WalkDeep; on no condition. -/
import Derived.Test.YtnnfledihhiaiaaGreatDoorTie
import Derived.Test.YtnnfledihhiaiaaGreatDoorCards
import Derived.SevenTiedAt
import Derived.KernelRfl
set_option linter.unusedVariables false
set_option linter.unusedSimpArgs false
set_option linter.unusedSectionVars false
namespace Go.Proofs.YtnnfledihhiaiaaGreatDoor
open Go Go.Proofs
theorem walkDeepF2 : (mapsRowed Tryz.prog) = true := by kernel_rfl
theorem walkDeepF5 : ((Rows.walkDeepRow.stops == [])) = true := by kernel_rfl
theorem walkDeepF8 : ((Tryz.prog.stopKnobs == [])) = true := by kernel_rfl
theorem walkDeepF11 : ((Rows.walkDeepRow.recurses == Tryz.prog.recurses 4)) = true := by kernel_rfl
theorem walkDeepF14 : ((Rows.walkDeepRow.ifaces == (Tryz.f4.params.toList ++ Rows.walkDeepSpec.plain.varTypes Tryz.prog).any (Tryz.prog.ifacesRec ·))) = true := by kernel_rfl
theorem walkDeepF17 : ((Rows.walkDeepRow.wideKeys == (Tryz.f4.params.toList ++ Rows.walkDeepSpec.plain.varTypes Tryz.prog ++ Tryz.f4.resultTypes.toList).any (Tryz.prog.wideKeysFrom ·))) = true := by kernel_rfl
theorem walkDeepF20 : ((Rows.walkDeepRow.ifacesOut == Tryz.f4.resultTypes.toList.any (Tryz.prog.ifacesRec ·))) = true := by kernel_rfl
theorem walkDeepF23 : (Rows.walkDeepRow.shortTexts.isNone) = true := by kernel_rfl
theorem walkDeepF26 : ((Rows.walkDeepRow.lifted == Tryz.prog.liftsFinal)) = true := by kernel_rfl
theorem walkDeepF29 : ((Rows.walkDeepRow.pinned == Rows.walkDeepRow.pinnedBy)) = true := by kernel_rfl
theorem walkDeepNamed : Tryz.prog.funcNamed "colporteur/colporteurlaw15.WalkDeep" = some 4 := by kernel_rfl
theorem walkDeepByText : Rows.walkDeepRow.wfByText (OpenSpec.ofChange Rows.walkDeepSpec) = true := by kernel_rfl
theorem walkDeepGoes : false = Rows.walkDeepRow.goesBy Tryz.prog := by kernel_rfl
end Go.Proofs.YtnnfledihhiaiaaGreatDoor
