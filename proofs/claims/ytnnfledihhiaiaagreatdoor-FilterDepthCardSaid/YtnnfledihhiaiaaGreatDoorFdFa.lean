/- Closed facts of the row of FilterDepth; on no condition. -/
import Derived.Test.YtnnfledihhiaiaaGreatDoorTie
import Derived.Test.YtnnfledihhiaiaaGreatDoorCards
import Derived.SevenTiedAt
import Derived.KernelRfl
set_option linter.unusedVariables false
set_option linter.unusedSimpArgs false
set_option linter.unusedSectionVars false
namespace Go.Proofs.YtnnfledihhiaiaaGreatDoor
open Go Go.Proofs
theorem filterDepthF0 : (Rows.filterDepthRow.wf (OpenSpec.ofChange Rows.filterDepthSpec)) = true := by kernel_rfl
theorem filterDepthF3 : (Tryz.f8.params.all (Tryz.prog.readableRec ·)) = true := by kernel_rfl
theorem filterDepthF6 : ((Tryz.prog.stops == [])) = true := by kernel_rfl
theorem filterDepthF9 : ((Rows.filterDepthRow.inPlace == Tryz.prog.inPlace 8)) = true := by kernel_rfl
theorem filterDepthF12 : ((Rows.filterDepthRow.named == Tryz.prog.varsNamed 8)) = true := by kernel_rfl
theorem filterDepthF15 : ((Rows.filterDepthRow.mapsOut == Tryz.prog.mapsAmong Tryz.f8.resultTypes.toList)) = true := by kernel_rfl
theorem filterDepthF18 : (Rows.filterDepthSpec.vars.all (Tryz.prog.varReadable ·)) = true := by kernel_rfl
theorem filterDepthF21 : ((Rows.filterDepthRow.loopsOut == Tryz.f8.resultTypes.toList.any (Tryz.prog.loopsFrom ·))) = true := by kernel_rfl
theorem filterDepthF24 : (Tryz.prog.stopsHeard) = true := by kernel_rfl
theorem filterDepthF27 : ((Tryz.prog.make == some Rows.filterDepthRow.make)) = true := by kernel_rfl
theorem filterDepthF30 : ((Rows.filterDepthRow.veiled == (Tryz.f8.params.toList ++ Rows.filterDepthSpec.plain.varTypes Tryz.prog ++ Tryz.f8.resultTypes.toList).any (Tryz.prog.veiledRec ·))) = true := by kernel_rfl
theorem filterDepthWrap : Tryz.f8.isWrapper Tryz.prog Rows.filterDepthRow.wrapper Rows.filterDepthRow.mainSum := by unfold Func.isWrapper; first | (rw [if_pos (by decide +kernel)]; kernel_rfl) | (rw [if_neg (by decide +kernel)]; exact ⟨rfl, rfl⟩)
theorem filterDepthMain : Tryz.prog.mainIs = some (true, "c97cde244724dd329f2b399d2dac099d624c3212ddef85b562753614e98543dc".toList) := by kernel_rfl
theorem filterDepthStand : ([3, 3].all fun u => !Tryz.prog.wantsStandIn u) = true := by kernel_rfl
end Go.Proofs.YtnnfledihhiaiaaGreatDoor
