/- Closed facts of the row of WalkDeep; on no condition. -/
import Derived.Test.YtnnfledihhiaiaaGreatDoorTie
import Derived.Test.YtnnfledihhiaiaaGreatDoorCards
import Derived.SevenTiedAt
import Derived.KernelRfl
set_option linter.unusedVariables false
set_option linter.unusedSimpArgs false
set_option linter.unusedSectionVars false
namespace Go.Proofs.YtnnfledihhiaiaaGreatDoor
open Go Go.Proofs
theorem walkDeepF0 : (Rows.walkDeepRow.wf (OpenSpec.ofChange Rows.walkDeepSpec)) = true := by kernel_rfl
theorem walkDeepF3 : (Tryz.f4.params.all (Tryz.prog.readableRec ·)) = true := by kernel_rfl
theorem walkDeepF6 : ((Tryz.prog.stops == [])) = true := by kernel_rfl
theorem walkDeepF9 : ((Rows.walkDeepRow.inPlace == Tryz.prog.inPlace 4)) = true := by kernel_rfl
theorem walkDeepF12 : ((Rows.walkDeepRow.named == Tryz.prog.varsNamed 4)) = true := by kernel_rfl
theorem walkDeepF15 : ((Rows.walkDeepRow.mapsOut == Tryz.prog.mapsAmong Tryz.f4.resultTypes.toList)) = true := by kernel_rfl
theorem walkDeepF18 : (Rows.walkDeepSpec.vars.all (Tryz.prog.varReadable ·)) = true := by kernel_rfl
theorem walkDeepF21 : ((Rows.walkDeepRow.loopsOut == Tryz.f4.resultTypes.toList.any (Tryz.prog.loopsFrom ·))) = true := by kernel_rfl
theorem walkDeepF24 : (Tryz.prog.stopsHeard) = true := by kernel_rfl
theorem walkDeepF27 : ((Tryz.prog.make == some Rows.walkDeepRow.make)) = true := by kernel_rfl
theorem walkDeepF30 : ((Rows.walkDeepRow.veiled == (Tryz.f4.params.toList ++ Rows.walkDeepSpec.plain.varTypes Tryz.prog ++ Tryz.f4.resultTypes.toList).any (Tryz.prog.veiledRec ·))) = true := by kernel_rfl
theorem walkDeepWrap : Tryz.f4.isWrapper Tryz.prog Rows.walkDeepRow.wrapper Rows.walkDeepRow.mainSum := by unfold Func.isWrapper; first | (rw [if_pos (by decide +kernel)]; kernel_rfl) | (rw [if_neg (by decide +kernel)]; exact ⟨rfl, rfl⟩)
theorem walkDeepMain : Tryz.prog.mainIs = some (true, "c97cde244724dd329f2b399d2dac099d624c3212ddef85b562753614e98543dc".toList) := by kernel_rfl
theorem walkDeepStand : ([3].all fun u => !Tryz.prog.wantsStandIn u) = true := by kernel_rfl
end Go.Proofs.YtnnfledihhiaiaaGreatDoor
