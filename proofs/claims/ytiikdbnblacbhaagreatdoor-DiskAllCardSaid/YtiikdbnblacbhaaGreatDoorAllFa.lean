/- Closed facts of the row of DiskAll; on no condition. -/
import Derived.Test.YtiikdbnblacbhaaGreatDoorTie
import Derived.Test.YtiikdbnblacbhaaGreatDoorCards
import Derived.SevenTiedAt
import Derived.KernelRfl
set_option linter.unusedVariables false
set_option linter.unusedSimpArgs false
set_option linter.unusedSectionVars false
namespace Go.Proofs.YtiikdbnblacbhaaGreatDoor
open Go Go.Proofs
theorem diskAllF0 : (Rows.diskAllRow.wf (OpenSpec.ofChange Rows.diskAllSpec)) = true := by kernel_rfl
theorem diskAllF3 : (Tryz.f6.params.all (Tryz.prog.readableRec ·)) = true := by kernel_rfl
theorem diskAllF6 : ((Tryz.prog.stops == [])) = true := by kernel_rfl
theorem diskAllF9 : ((Rows.diskAllRow.inPlace == Tryz.prog.inPlace 6)) = true := by kernel_rfl
theorem diskAllF12 : ((Rows.diskAllRow.named == Tryz.prog.varsNamed 6)) = true := by kernel_rfl
theorem diskAllF15 : ((Rows.diskAllRow.mapsOut == Tryz.prog.mapsAmong Tryz.f6.resultTypes.toList)) = true := by kernel_rfl
theorem diskAllF18 : (Rows.diskAllSpec.vars.all (Tryz.prog.varReadable ·)) = true := by kernel_rfl
theorem diskAllF21 : ((Rows.diskAllRow.loopsOut == Tryz.f6.resultTypes.toList.any (Tryz.prog.loopsFrom ·))) = true := by kernel_rfl
theorem diskAllF24 : (Tryz.prog.stopsHeard) = true := by kernel_rfl
theorem diskAllF27 : ((Tryz.prog.make == some Rows.diskAllRow.make)) = true := by kernel_rfl
theorem diskAllF30 : ((Rows.diskAllRow.veiled == (Tryz.f6.params.toList ++ Rows.diskAllSpec.plain.varTypes Tryz.prog ++ Tryz.f6.resultTypes.toList).any (Tryz.prog.veiledRec ·))) = true := by kernel_rfl
theorem diskAllWrap : Tryz.f6.isWrapper Tryz.prog Rows.diskAllRow.wrapper Rows.diskAllRow.mainSum := by unfold Func.isWrapper; first | (rw [if_pos (by decide +kernel)]; kernel_rfl) | (rw [if_neg (by decide +kernel)]; exact ⟨rfl, rfl⟩)
theorem diskAllMain : Tryz.prog.mainIs = some (true, "8254acd3c2aac087ad5703f659930b532e9eb6a40387222cfde0cc108e52f180".toList) := by kernel_rfl
theorem diskAllStand : ([59].all fun u => !Tryz.prog.wantsStandIn u) = true := by kernel_rfl
end Go.Proofs.YtiikdbnblacbhaaGreatDoor
