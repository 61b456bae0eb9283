/- Closed facts of the row of DiskFuse; on no condition. -/
import Derived.Test.YtiikdbnblacbhaaGreatDoorTie
import Derived.Test.YtiikdbnblacbhaaGreatDoorCards
import Derived.SevenTiedAt
import Derived.KernelRfl
set_option linter.unusedVariables false
set_option linter.unusedSimpArgs false
set_option linter.unusedSectionVars false
namespace Go.Proofs.YtiikdbnblacbhaaGreatDoor
open Go Go.Proofs
theorem diskFuseF0 : (Rows.diskFuseRow.wf (OpenSpec.ofChange Rows.diskFuseSpec)) = true := by kernel_rfl
theorem diskFuseF3 : (Tryz.f7.params.all (Tryz.prog.readableRec ·)) = true := by kernel_rfl
theorem diskFuseF6 : ((Tryz.prog.stops == [])) = true := by kernel_rfl
theorem diskFuseF9 : ((Rows.diskFuseRow.inPlace == Tryz.prog.inPlace 7)) = true := by kernel_rfl
theorem diskFuseF12 : ((Rows.diskFuseRow.named == Tryz.prog.varsNamed 7)) = true := by kernel_rfl
theorem diskFuseF15 : ((Rows.diskFuseRow.mapsOut == Tryz.prog.mapsAmong Tryz.f7.resultTypes.toList)) = true := by kernel_rfl
theorem diskFuseF18 : (Rows.diskFuseSpec.vars.all (Tryz.prog.varReadable ·)) = true := by kernel_rfl
theorem diskFuseF21 : ((Rows.diskFuseRow.loopsOut == Tryz.f7.resultTypes.toList.any (Tryz.prog.loopsFrom ·))) = true := by kernel_rfl
theorem diskFuseF24 : (Tryz.prog.stopsHeard) = true := by kernel_rfl
theorem diskFuseF27 : ((Tryz.prog.make == some Rows.diskFuseRow.make)) = true := by kernel_rfl
theorem diskFuseF30 : ((Rows.diskFuseRow.veiled == (Tryz.f7.params.toList ++ Rows.diskFuseSpec.plain.varTypes Tryz.prog ++ Tryz.f7.resultTypes.toList).any (Tryz.prog.veiledRec ·))) = true := by kernel_rfl
theorem diskFuseWrap : Tryz.f7.isWrapper Tryz.prog Rows.diskFuseRow.wrapper Rows.diskFuseRow.mainSum := by unfold Func.isWrapper; first | (rw [if_pos (by decide +kernel)]; kernel_rfl) | (rw [if_neg (by decide +kernel)]; exact ⟨rfl, rfl⟩)
theorem diskFuseMain : Tryz.prog.mainIs = some (true, "8254acd3c2aac087ad5703f659930b532e9eb6a40387222cfde0cc108e52f180".toList) := by kernel_rfl
theorem diskFuseStand : ([3, 3, 25].all fun u => !Tryz.prog.wantsStandIn u) = true := by kernel_rfl
end Go.Proofs.YtiikdbnblacbhaaGreatDoor
