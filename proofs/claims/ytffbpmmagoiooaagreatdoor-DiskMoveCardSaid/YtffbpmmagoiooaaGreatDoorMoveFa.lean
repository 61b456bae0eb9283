/- Closed facts of the row of DiskMove; on no condition. -/
import Derived.Test.YtffbpmmagoiooaaGreatDoorTie
import Derived.Test.YtffbpmmagoiooaaGreatDoorCards
import Derived.SevenTiedAt
import Derived.KernelRfl
set_option linter.unusedVariables false
set_option linter.unusedSimpArgs false
set_option linter.unusedSectionVars false
namespace Go.Proofs.YtffbpmmagoiooaaGreatDoor
open Go Go.Proofs
theorem diskMoveF0 : (Rows.diskMoveRow.wf (OpenSpec.ofChange Rows.diskMoveSpec)) = true := by kernel_rfl
theorem diskMoveF3 : (Tryz.f4.params.all (Tryz.prog.readableRec ·)) = true := by kernel_rfl
theorem diskMoveF6 : ((Tryz.prog.stops == [])) = true := by kernel_rfl
theorem diskMoveF9 : ((Rows.diskMoveRow.inPlace == Tryz.prog.inPlace 4)) = true := by kernel_rfl
theorem diskMoveF12 : ((Rows.diskMoveRow.named == Tryz.prog.varsNamed 4)) = true := by kernel_rfl
theorem diskMoveF15 : ((Rows.diskMoveRow.mapsOut == Tryz.prog.mapsAmong Tryz.f4.resultTypes.toList)) = true := by kernel_rfl
theorem diskMoveF18 : (Rows.diskMoveSpec.vars.all (Tryz.prog.varReadable ·)) = true := by kernel_rfl
theorem diskMoveF21 : ((Rows.diskMoveRow.loopsOut == Tryz.f4.resultTypes.toList.any (Tryz.prog.loopsFrom ·))) = true := by kernel_rfl
theorem diskMoveF24 : (Tryz.prog.stopsHeard) = true := by kernel_rfl
theorem diskMoveF27 : ((Tryz.prog.make == some Rows.diskMoveRow.make)) = true := by kernel_rfl
theorem diskMoveF30 : ((Rows.diskMoveRow.veiled == (Tryz.f4.params.toList ++ Rows.diskMoveSpec.plain.varTypes Tryz.prog ++ Tryz.f4.resultTypes.toList).any (Tryz.prog.veiledRec ·))) = true := by kernel_rfl
theorem diskMoveWrap : Tryz.f4.isWrapper Tryz.prog Rows.diskMoveRow.wrapper Rows.diskMoveRow.mainSum := by unfold Func.isWrapper; first | (rw [if_pos (by decide +kernel)]; kernel_rfl) | (rw [if_neg (by decide +kernel)]; exact ⟨rfl, rfl⟩)
theorem diskMoveMain : Tryz.prog.mainIs = some (true, "941112d6d7ebf3c542a979e7b3133ea79e64cab5cbd4c30bfb913d0226db9ebf".toList) := by kernel_rfl
theorem diskMoveStand : ([9, 9, 32].all fun u => !Tryz.prog.wantsStandIn u) = true := by kernel_rfl
end Go.Proofs.YtffbpmmagoiooaaGreatDoor
