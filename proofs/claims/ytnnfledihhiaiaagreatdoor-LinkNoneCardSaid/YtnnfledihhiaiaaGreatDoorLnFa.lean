/- Closed facts of the row of LinkNone; on no condition. -/
import Derived.Test.YtnnfledihhiaiaaGreatDoorTie
import Derived.Test.YtnnfledihhiaiaaGreatDoorCards
import Derived.SevenTiedAt
import Derived.KernelRfl
set_option linter.unusedVariables false
set_option linter.unusedSimpArgs false
set_option linter.unusedSectionVars false
namespace Go.Proofs.YtnnfledihhiaiaaGreatDoor
open Go Go.Proofs
theorem linkNoneF0 : (Rows.linkNoneRow.wf (OpenSpec.ofChange Rows.linkNoneSpec)) = true := by kernel_rfl
theorem linkNoneF3 : (Tryz.f3.params.all (Tryz.prog.readableRec ·)) = true := by kernel_rfl
theorem linkNoneF6 : ((Tryz.prog.stops == [])) = true := by kernel_rfl
theorem linkNoneF9 : ((Rows.linkNoneRow.inPlace == Tryz.prog.inPlace 3)) = true := by kernel_rfl
theorem linkNoneF12 : ((Rows.linkNoneRow.named == Tryz.prog.varsNamed 3)) = true := by kernel_rfl
theorem linkNoneF15 : ((Rows.linkNoneRow.mapsOut == Tryz.prog.mapsAmong Tryz.f3.resultTypes.toList)) = true := by kernel_rfl
theorem linkNoneF18 : (Rows.linkNoneSpec.vars.all (Tryz.prog.varReadable ·)) = true := by kernel_rfl
theorem linkNoneF21 : ((Rows.linkNoneRow.loopsOut == Tryz.f3.resultTypes.toList.any (Tryz.prog.loopsFrom ·))) = true := by kernel_rfl
theorem linkNoneF24 : (Tryz.prog.stopsHeard) = true := by kernel_rfl
theorem linkNoneF27 : ((Tryz.prog.make == some Rows.linkNoneRow.make)) = true := by kernel_rfl
theorem linkNoneF30 : ((Rows.linkNoneRow.veiled == (Tryz.f3.params.toList ++ Rows.linkNoneSpec.plain.varTypes Tryz.prog ++ Tryz.f3.resultTypes.toList).any (Tryz.prog.veiledRec ·))) = true := by kernel_rfl
theorem linkNoneWrap : Tryz.f3.isWrapper Tryz.prog Rows.linkNoneRow.wrapper Rows.linkNoneRow.mainSum := by unfold Func.isWrapper; first | (rw [if_pos (by decide +kernel)]; kernel_rfl) | (rw [if_neg (by decide +kernel)]; exact ⟨rfl, rfl⟩)
theorem linkNoneMain : Tryz.prog.mainIs = some (true, "c97cde244724dd329f2b399d2dac099d624c3212ddef85b562753614e98543dc".toList) := by kernel_rfl
theorem linkNoneStand : ([].all fun u => !Tryz.prog.wantsStandIn u) = true := by kernel_rfl
end Go.Proofs.YtnnfledihhiaiaaGreatDoor
