/- Closed facts of the row of DiskFull; on no condition. -/
import Derived.Test.YtffbpmmagoiooaaGreatDoorTie
import Derived.Test.YtffbpmmagoiooaaGreatDoorCards
import Derived.SevenTiedAt
import Derived.KernelRfl
set_option linter.unusedVariables false
set_option linter.unusedSimpArgs false
namespace Go.Proofs.YtffbpmmagoiooaaGreatDoor
open Go Go.Proofs
theorem diskFullF0 : (Rows.diskFullRow.wf (OpenSpec.ofChange Rows.diskFullSpec)) = true := by kernel_rfl
theorem diskFullF3 : (Tryz.f3.params.all (Tryz.prog.readableRec ·)) = true := by kernel_rfl
theorem diskFullF6 : ((Tryz.prog.stops == [])) = true := by kernel_rfl
theorem diskFullF9 : ((Rows.diskFullRow.inPlace == Tryz.prog.inPlace 3)) = true := by kernel_rfl
theorem diskFullF12 : ((Rows.diskFullRow.named == Tryz.prog.varsNamed 3)) = true := by kernel_rfl
theorem diskFullF15 : ((Rows.diskFullRow.mapsOut == Tryz.prog.mapsAmong Tryz.f3.resultTypes.toList)) = true := by kernel_rfl
theorem diskFullF18 : (Rows.diskFullSpec.vars.all (Tryz.prog.varReadable ·)) = true := by kernel_rfl
theorem diskFullF21 : ((Rows.diskFullRow.loopsOut == Tryz.f3.resultTypes.toList.any (Tryz.prog.loopsFrom ·))) = true := by kernel_rfl
theorem diskFullF24 : (Tryz.prog.stopsHeard) = true := by kernel_rfl
theorem diskFullF27 : ((Tryz.prog.make == some Rows.diskFullRow.make)) = true := by kernel_rfl
theorem diskFullF30 : ((Rows.diskFullRow.veiled == (Tryz.f3.params.toList ++ Rows.diskFullSpec.plain.varTypes Tryz.prog ++ Tryz.f3.resultTypes.toList).any (Tryz.prog.veiledRec ·))) = true := by kernel_rfl
theorem diskFullWrap : Tryz.f3.isWrapper Tryz.prog Rows.diskFullRow.wrapper Rows.diskFullRow.mainSum := by unfold Func.isWrapper; first | (rw [if_pos (by decide +kernel)]; kernel_rfl) | (rw [if_neg (by decide +kernel)]; exact ⟨rfl, rfl⟩)
theorem diskFullMain : Tryz.prog.mainIs = some (true, "941112d6d7ebf3c542a979e7b3133ea79e64cab5cbd4c30bfb913d0226db9ebf".toList) := by kernel_rfl
theorem diskFullStand : ([3].all fun u => !Tryz.prog.wantsStandIn u) = true := by kernel_rfl
end Go.Proofs.YtffbpmmagoiooaaGreatDoor
