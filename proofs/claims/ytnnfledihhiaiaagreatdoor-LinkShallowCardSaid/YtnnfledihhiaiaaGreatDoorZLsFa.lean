/- Closed facts of the row of LinkShallow; on no condition. -/
import Derived.Test.YtnnfledihhiaiaaGreatDoorTie
import Derived.Test.YtnnfledihhiaiaaGreatDoorCards
import Derived.SevenTiedAt
import Derived.KernelRfl
set_option linter.unusedVariables false
set_option linter.unusedSimpArgs false
set_option linter.unusedSectionVars false
namespace Go.Proofs.YtnnfledihhiaiaaGreatDoor
open Go Go.Proofs
theorem linkShallowF0 : (Rows.linkShallowRow.wf (OpenSpec.ofChange Rows.linkShallowSpec)) = true := by kernel_rfl
theorem linkShallowF3 : (Tryz.f10.params.all (Tryz.prog.readableRec ·)) = true := by kernel_rfl
theorem linkShallowF6 : ((Tryz.prog.stops == [])) = true := by kernel_rfl
theorem linkShallowF9 : ((Rows.linkShallowRow.inPlace == Tryz.prog.inPlace 10)) = true := by kernel_rfl
theorem linkShallowF12 : ((Rows.linkShallowRow.named == Tryz.prog.varsNamed 10)) = true := by kernel_rfl
theorem linkShallowF15 : ((Rows.linkShallowRow.mapsOut == Tryz.prog.mapsAmong Tryz.f10.resultTypes.toList)) = true := by kernel_rfl
theorem linkShallowF18 : (Rows.linkShallowSpec.vars.all (Tryz.prog.varReadable ·)) = true := by kernel_rfl
theorem linkShallowF21 : ((Rows.linkShallowRow.loopsOut == Tryz.f10.resultTypes.toList.any (Tryz.prog.loopsFrom ·))) = true := by kernel_rfl
theorem linkShallowF24 : (Tryz.prog.stopsHeard) = true := by kernel_rfl
theorem linkShallowF27 : ((Tryz.prog.make == some Rows.linkShallowRow.make)) = true := by kernel_rfl
theorem linkShallowF30 : ((Rows.linkShallowRow.veiled == (Tryz.f10.params.toList ++ Rows.linkShallowSpec.plain.varTypes Tryz.prog ++ Tryz.f10.resultTypes.toList).any (Tryz.prog.veiledRec ·))) = true := by kernel_rfl
theorem linkShallowWrap : Tryz.f10.isWrapper Tryz.prog Rows.linkShallowRow.wrapper Rows.linkShallowRow.mainSum := by unfold Func.isWrapper; first | (rw [if_pos (by decide +kernel)]; kernel_rfl) | (rw [if_neg (by decide +kernel)]; exact ⟨rfl, rfl⟩)
theorem linkShallowMain : Tryz.prog.mainIs = some (true, "c97cde244724dd329f2b399d2dac099d624c3212ddef85b562753614e98543dc".toList) := by kernel_rfl
theorem linkShallowStand : ([3, 4, 4].all fun u => !Tryz.prog.wantsStandIn u) = true := by kernel_rfl
end Go.Proofs.YtnnfledihhiaiaaGreatDoor
