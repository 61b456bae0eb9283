/- Closed facts of the row of DepthTime; on no condition. -/
import Derived.Test.YtnnfledihhiaiaaGreatDoorTie
import Derived.Test.YtnnfledihhiaiaaGreatDoorCards
import Derived.SevenTiedAt
import Derived.KernelRfl
set_option linter.unusedVariables false
set_option linter.unusedSimpArgs false
set_option linter.unusedSectionVars false
namespace Go.Proofs.YtnnfledihhiaiaaGreatDoor
open Go Go.Proofs
theorem depthTimeF0 : (Rows.depthTimeRow.wf (OpenSpec.ofChange Rows.depthTimeSpec)) = true := by kernel_rfl
theorem depthTimeF3 : (Tryz.f6.params.all (Tryz.prog.readableRec ·)) = true := by kernel_rfl
theorem depthTimeF6 : ((Tryz.prog.stops == [])) = true := by kernel_rfl
theorem depthTimeF9 : ((Rows.depthTimeRow.inPlace == Tryz.prog.inPlace 6)) = true := by kernel_rfl
theorem depthTimeF12 : ((Rows.depthTimeRow.named == Tryz.prog.varsNamed 6)) = true := by kernel_rfl
theorem depthTimeF15 : ((Rows.depthTimeRow.mapsOut == Tryz.prog.mapsAmong Tryz.f6.resultTypes.toList)) = true := by kernel_rfl
theorem depthTimeF18 : (Rows.depthTimeSpec.vars.all (Tryz.prog.varReadable ·)) = true := by kernel_rfl
theorem depthTimeF21 : ((Rows.depthTimeRow.loopsOut == Tryz.f6.resultTypes.toList.any (Tryz.prog.loopsFrom ·))) = true := by kernel_rfl
theorem depthTimeF24 : (Tryz.prog.stopsHeard) = true := by kernel_rfl
theorem depthTimeF27 : ((Tryz.prog.make == some Rows.depthTimeRow.make)) = true := by kernel_rfl
theorem depthTimeF30 : ((Rows.depthTimeRow.veiled == (Tryz.f6.params.toList ++ Rows.depthTimeSpec.plain.varTypes Tryz.prog ++ Tryz.f6.resultTypes.toList).any (Tryz.prog.veiledRec ·))) = true := by kernel_rfl
theorem depthTimeWrap : Tryz.f6.isWrapper Tryz.prog Rows.depthTimeRow.wrapper Rows.depthTimeRow.mainSum := by unfold Func.isWrapper; first | (rw [if_pos (by decide +kernel)]; kernel_rfl) | (rw [if_neg (by decide +kernel)]; exact ⟨rfl, rfl⟩)
theorem depthTimeMain : Tryz.prog.mainIs = some (true, "c97cde244724dd329f2b399d2dac099d624c3212ddef85b562753614e98543dc".toList) := by kernel_rfl
theorem depthTimeStand : ([3, 27].all fun u => !Tryz.prog.wantsStandIn u) = true := by kernel_rfl
end Go.Proofs.YtnnfledihhiaiaaGreatDoor
