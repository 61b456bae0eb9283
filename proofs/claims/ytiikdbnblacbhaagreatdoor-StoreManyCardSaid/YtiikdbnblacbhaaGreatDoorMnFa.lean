/- Closed facts of the row; on no condition. -/
import Derived.Test.YtiikdbnblacbhaaGreatDoorTie
import Derived.Test.YtiikdbnblacbhaaGreatDoorCards
import Derived.SevenTiedAt
import Derived.KernelRfl
set_option linter.unusedVariables false
set_option linter.unusedSimpArgs false
set_option linter.unusedSectionVars false
namespace Go.Proofs.YtiikdbnblacbhaaGreatDoor
open Go Go.Proofs
theorem storeManyF0 : (Rows.storeManyRow.wf (OpenSpec.ofChange Rows.storeManySpec)) = true := by kernel_rfl
theorem storeManyF3 : (Tryz.f5.params.all (Tryz.prog.readableRec ·)) = true := by kernel_rfl
theorem storeManyF6 : ((Tryz.prog.stops == [])) = true := by kernel_rfl
theorem storeManyF9 : ((Rows.storeManyRow.inPlace == Tryz.prog.inPlace 5)) = true := by kernel_rfl
theorem storeManyF12 : ((Rows.storeManyRow.named == Tryz.prog.varsNamed 5)) = true := by kernel_rfl
theorem storeManyF15 : ((Rows.storeManyRow.mapsOut == Tryz.prog.mapsAmong Tryz.f5.resultTypes.toList)) = true := by kernel_rfl
theorem storeManyF18 : (Rows.storeManySpec.vars.all (Tryz.prog.varReadable ·)) = true := by kernel_rfl
theorem storeManyF21 : ((Rows.storeManyRow.loopsOut == Tryz.f5.resultTypes.toList.any (Tryz.prog.loopsFrom ·))) = true := by kernel_rfl
theorem storeManyF24 : (Tryz.prog.stopsHeard) = true := by kernel_rfl
theorem storeManyF27 : ((Tryz.prog.make == some Rows.storeManyRow.make)) = true := by kernel_rfl
theorem storeManyF30 : ((Rows.storeManyRow.veiled == (Tryz.f5.params.toList ++ Rows.storeManySpec.plain.varTypes Tryz.prog ++ Tryz.f5.resultTypes.toList).any (Tryz.prog.veiledRec ·))) = true := by kernel_rfl
theorem storeManyWrap : Tryz.f5.isWrapper Tryz.prog Rows.storeManyRow.wrapper Rows.storeManyRow.mainSum := by unfold Func.isWrapper; first | (rw [if_pos (by decide +kernel)]; kernel_rfl) | (rw [if_neg (by decide +kernel)]; exact ⟨rfl, rfl⟩)
theorem storeManyMain : Tryz.prog.mainIs = some (true, "8254acd3c2aac087ad5703f659930b532e9eb6a40387222cfde0cc108e52f180".toList) := by kernel_rfl
theorem storeManyStand : ([3, 4].all fun u => !Tryz.prog.wantsStandIn u) = true := by kernel_rfl
end Go.Proofs.YtiikdbnblacbhaaGreatDoor
