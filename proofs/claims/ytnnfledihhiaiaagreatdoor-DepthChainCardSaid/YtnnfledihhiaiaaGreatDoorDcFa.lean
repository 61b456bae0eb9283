/- Closed facts of the row of DepthChain; on no condition. -/
import Derived.Test.YtnnfledihhiaiaaGreatDoorTie
import Derived.Test.YtnnfledihhiaiaaGreatDoorCards
import Derived.SevenTiedAt
import Derived.KernelRfl
set_option linter.unusedVariables false
set_option linter.unusedSimpArgs false
set_option linter.unusedSectionVars false
namespace Go.Proofs.YtnnfledihhiaiaaGreatDoor
open Go Go.Proofs
theorem depthChainF0 : (Rows.depthChainRow.wf (OpenSpec.ofChange Rows.depthChainSpec)) = true := by kernel_rfl
theorem depthChainF3 : (Tryz.f5.params.all (Tryz.prog.readableRec ·)) = true := by kernel_rfl
theorem depthChainF6 : ((Tryz.prog.stops == [])) = true := by kernel_rfl
theorem depthChainF9 : ((Rows.depthChainRow.inPlace == Tryz.prog.inPlace 5)) = true := by kernel_rfl
theorem depthChainF12 : ((Rows.depthChainRow.named == Tryz.prog.varsNamed 5)) = true := by kernel_rfl
theorem depthChainF15 : ((Rows.depthChainRow.mapsOut == Tryz.prog.mapsAmong Tryz.f5.resultTypes.toList)) = true := by kernel_rfl
theorem depthChainF18 : (Rows.depthChainSpec.vars.all (Tryz.prog.varReadable ·)) = true := by kernel_rfl
theorem depthChainF21 : ((Rows.depthChainRow.loopsOut == Tryz.f5.resultTypes.toList.any (Tryz.prog.loopsFrom ·))) = true := by kernel_rfl
theorem depthChainF24 : (Tryz.prog.stopsHeard) = true := by kernel_rfl
theorem depthChainF27 : ((Tryz.prog.make == some Rows.depthChainRow.make)) = true := by kernel_rfl
theorem depthChainF30 : ((Rows.depthChainRow.veiled == (Tryz.f5.params.toList ++ Rows.depthChainSpec.plain.varTypes Tryz.prog ++ Tryz.f5.resultTypes.toList).any (Tryz.prog.veiledRec ·))) = true := by kernel_rfl
theorem depthChainWrap : Tryz.f5.isWrapper Tryz.prog Rows.depthChainRow.wrapper Rows.depthChainRow.mainSum := by unfold Func.isWrapper; first | (rw [if_pos (by decide +kernel)]; kernel_rfl) | (rw [if_neg (by decide +kernel)]; exact ⟨rfl, rfl⟩)
theorem depthChainMain : Tryz.prog.mainIs = some (true, "c97cde244724dd329f2b399d2dac099d624c3212ddef85b562753614e98543dc".toList) := by kernel_rfl
theorem depthChainStand : ([3, 3].all fun u => !Tryz.prog.wantsStandIn u) = true := by kernel_rfl
end Go.Proofs.YtnnfledihhiaiaaGreatDoor
