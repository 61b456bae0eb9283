/- Closed facts of the row of DepthChain; on no condition. -/
import Derived.Test.YtnnfledihhiaiaaGreatDoorTie
import Derived.Test.YtnnfledihhiaiaaGreatDoorCards
import Derived.SevenTiedAt
import Derived.KernelRfl
set_option linter.unusedVariables false
set_option linter.unusedSimpArgs false
set_option linter.unusedSectionVars false
namespace Go.Proofs.YtnnfledihhiaiaaGreatDoor
open Go Go.Proofs
theorem depthChainF2 : (mapsRowed Tryz.prog) = true := by kernel_rfl
theorem depthChainF5 : ((Rows.depthChainRow.stops == [])) = true := by kernel_rfl
theorem depthChainF8 : ((Tryz.prog.stopKnobs == [])) = true := by kernel_rfl
theorem depthChainF11 : ((Rows.depthChainRow.recurses == Tryz.prog.recurses 5)) = true := by kernel_rfl
theorem depthChainF14 : ((Rows.depthChainRow.ifaces == (Tryz.f5.params.toList ++ Rows.depthChainSpec.plain.varTypes Tryz.prog).any (Tryz.prog.ifacesRec ·))) = true := by kernel_rfl
theorem depthChainF17 : ((Rows.depthChainRow.wideKeys == (Tryz.f5.params.toList ++ Rows.depthChainSpec.plain.varTypes Tryz.prog ++ Tryz.f5.resultTypes.toList).any (Tryz.prog.wideKeysFrom ·))) = true := by kernel_rfl
theorem depthChainF20 : ((Rows.depthChainRow.ifacesOut == Tryz.f5.resultTypes.toList.any (Tryz.prog.ifacesRec ·))) = true := by kernel_rfl
theorem depthChainF23 : (Rows.depthChainRow.shortTexts.isNone) = true := by kernel_rfl
theorem depthChainF26 : ((Rows.depthChainRow.lifted == Tryz.prog.liftsFinal)) = true := by kernel_rfl
theorem depthChainF29 : ((Rows.depthChainRow.pinned == Rows.depthChainRow.pinnedBy)) = true := by kernel_rfl
theorem depthChainNamed : Tryz.prog.funcNamed "colporteur/colporteurlaw15.DepthChain" = some 5 := by kernel_rfl
theorem depthChainByText : Rows.depthChainRow.wfByText (OpenSpec.ofChange Rows.depthChainSpec) = true := by kernel_rfl
theorem depthChainGoes : false = Rows.depthChainRow.goesBy Tryz.prog := by kernel_rfl
end Go.Proofs.YtnnfledihhiaiaaGreatDoor
