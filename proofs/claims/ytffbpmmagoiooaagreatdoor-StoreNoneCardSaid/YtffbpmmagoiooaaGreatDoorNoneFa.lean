/- Closed facts of the row of StoreNone; on no condition. -/
import Derived.Test.YtffbpmmagoiooaaGreatDoorTie
import Derived.Test.YtffbpmmagoiooaaGreatDoorCards
import Derived.SevenTiedAt
import Derived.KernelRfl
set_option linter.unusedVariables false
set_option linter.unusedSimpArgs false
namespace Go.Proofs.YtffbpmmagoiooaaGreatDoor
open Go Go.Proofs
theorem storeNoneF0 : (Rows.storeNoneRow.wf (OpenSpec.ofChange Rows.storeNoneSpec)) = true := by kernel_rfl
theorem storeNoneF3 : (Tryz.f12.params.all (Tryz.prog.readableRec ·)) = true := by kernel_rfl
theorem storeNoneF6 : ((Tryz.prog.stops == [])) = true := by kernel_rfl
theorem storeNoneF9 : ((Rows.storeNoneRow.inPlace == Tryz.prog.inPlace 12)) = true := by kernel_rfl
theorem storeNoneF12 : ((Rows.storeNoneRow.named == Tryz.prog.varsNamed 12)) = true := by kernel_rfl
theorem storeNoneF15 : ((Rows.storeNoneRow.mapsOut == Tryz.prog.mapsAmong Tryz.f12.resultTypes.toList)) = true := by kernel_rfl
theorem storeNoneF18 : (Rows.storeNoneSpec.vars.all (Tryz.prog.varReadable ·)) = true := by kernel_rfl
theorem storeNoneF21 : ((Rows.storeNoneRow.loopsOut == Tryz.f12.resultTypes.toList.any (Tryz.prog.loopsFrom ·))) = true := by kernel_rfl
theorem storeNoneF24 : (Tryz.prog.stopsHeard) = true := by kernel_rfl
theorem storeNoneF27 : ((Tryz.prog.make == some Rows.storeNoneRow.make)) = true := by kernel_rfl
theorem storeNoneF30 : ((Rows.storeNoneRow.veiled == (Tryz.f12.params.toList ++ Rows.storeNoneSpec.plain.varTypes Tryz.prog ++ Tryz.f12.resultTypes.toList).any (Tryz.prog.veiledRec ·))) = true := by kernel_rfl
theorem storeNoneWrap : Tryz.f12.isWrapper Tryz.prog Rows.storeNoneRow.wrapper Rows.storeNoneRow.mainSum := by unfold Func.isWrapper; first | (rw [if_pos (by decide +kernel)]; kernel_rfl) | (rw [if_neg (by decide +kernel)]; exact ⟨rfl, rfl⟩)
theorem storeNoneMain : Tryz.prog.mainIs = some (true, "941112d6d7ebf3c542a979e7b3133ea79e64cab5cbd4c30bfb913d0226db9ebf".toList) := by kernel_rfl
theorem storeNoneStand : ([].all fun u => !Tryz.prog.wantsStandIn u) = true := by kernel_rfl
end Go.Proofs.YtffbpmmagoiooaaGreatDoor
