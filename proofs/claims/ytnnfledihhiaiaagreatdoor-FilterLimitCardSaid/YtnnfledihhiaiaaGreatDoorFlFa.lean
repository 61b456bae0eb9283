/- Closed facts of the row of FilterLimit; on no condition. -/
import Derived.Test.YtnnfledihhiaiaaGreatDoorTie
import Derived.Test.YtnnfledihhiaiaaGreatDoorCards
import Derived.SevenTiedAt
import Derived.KernelRfl
set_option linter.unusedVariables false
set_option linter.unusedSimpArgs false
set_option linter.unusedSectionVars false
namespace Go.Proofs.YtnnfledihhiaiaaGreatDoor
open Go Go.Proofs
theorem filterLimitF0 : (Rows.filterLimitRow.wf (OpenSpec.ofChange Rows.filterLimitSpec)) = true := by kernel_rfl
theorem filterLimitF3 : (Tryz.f9.params.all (Tryz.prog.readableRec ·)) = true := by kernel_rfl
theorem filterLimitF6 : ((Tryz.prog.stops == [])) = true := by kernel_rfl
theorem filterLimitF9 : ((Rows.filterLimitRow.inPlace == Tryz.prog.inPlace 9)) = true := by kernel_rfl
theorem filterLimitF12 : ((Rows.filterLimitRow.named == Tryz.prog.varsNamed 9)) = true := by kernel_rfl
theorem filterLimitF15 : ((Rows.filterLimitRow.mapsOut == Tryz.prog.mapsAmong Tryz.f9.resultTypes.toList)) = true := by kernel_rfl
theorem filterLimitF18 : (Rows.filterLimitSpec.vars.all (Tryz.prog.varReadable ·)) = true := by kernel_rfl
theorem filterLimitF21 : ((Rows.filterLimitRow.loopsOut == Tryz.f9.resultTypes.toList.any (Tryz.prog.loopsFrom ·))) = true := by kernel_rfl
theorem filterLimitF24 : (Tryz.prog.stopsHeard) = true := by kernel_rfl
theorem filterLimitF27 : ((Tryz.prog.make == some Rows.filterLimitRow.make)) = true := by kernel_rfl
theorem filterLimitF30 : ((Rows.filterLimitRow.veiled == (Tryz.f9.params.toList ++ Rows.filterLimitSpec.plain.varTypes Tryz.prog ++ Tryz.f9.resultTypes.toList).any (Tryz.prog.veiledRec ·))) = true := by kernel_rfl
theorem filterLimitWrap : Tryz.f9.isWrapper Tryz.prog Rows.filterLimitRow.wrapper Rows.filterLimitRow.mainSum := by unfold Func.isWrapper; first | (rw [if_pos (by decide +kernel)]; kernel_rfl) | (rw [if_neg (by decide +kernel)]; exact ⟨rfl, rfl⟩)
theorem filterLimitMain : Tryz.prog.mainIs = some (true, "c97cde244724dd329f2b399d2dac099d624c3212ddef85b562753614e98543dc".toList) := by kernel_rfl
theorem filterLimitStand : ([3, 3, 4].all fun u => !Tryz.prog.wantsStandIn u) = true := by kernel_rfl
end Go.Proofs.YtnnfledihhiaiaaGreatDoor
