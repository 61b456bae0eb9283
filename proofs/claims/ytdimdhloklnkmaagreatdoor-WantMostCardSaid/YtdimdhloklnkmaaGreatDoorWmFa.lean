/- Closed facts of the row of WantMost; on no condition. -/
import Derived.Test.YtdimdhloklnkmaaGreatDoorTie
import Derived.Test.YtdimdhloklnkmaaGreatDoorCards
import Derived.SevenTiedAt
import Derived.KernelRfl
import Derived.Test.YtdimdhloklnkmaaGreatDoorNg
set_option linter.unusedVariables false
set_option linter.unusedSimpArgs false
set_option linter.unusedSectionVars false
namespace Go.Proofs.YtdimdhloklnkmaaGreatDoor
open Go Go.Proofs
theorem wantMostF0 : (Rows.wantMostRow.wf (OpenSpec.ofChange Rows.wantMostSpec)) = true := by kernel_rfl
theorem wantMostF3 : (Tryz.f4.params.all (Tryz.prog.readableRec ·)) = true := by kernel_rfl
theorem wantMostF6 : ((Tryz.prog.stops == [])) = true := by kernel_rfl
theorem wantMostF9 : ((Rows.wantMostRow.inPlace == Tryz.prog.inPlace 4)) = true := by kernel_rfl
theorem wantMostF12 : ((Rows.wantMostRow.named == Tryz.prog.varsNamed 4)) = true := by kernel_rfl
theorem wantMostF15 : ((Rows.wantMostRow.mapsOut == Tryz.prog.mapsAmong Tryz.f4.resultTypes.toList)) = true := by kernel_rfl
theorem wantMostF18 : (Rows.wantMostSpec.vars.all (Tryz.prog.varReadable ·)) = true := by kernel_rfl
theorem wantMostF21 : ((Rows.wantMostRow.loopsOut == Tryz.f4.resultTypes.toList.any (Tryz.prog.loopsFrom ·))) = true := by kernel_rfl
theorem wantMostF24 : (Tryz.prog.stopsHeard) = true := by kernel_rfl
theorem wantMostF27 : ((Tryz.prog.make == some Rows.wantMostRow.make)) = true := by kernel_rfl
theorem wantMostF30 : ((Rows.wantMostRow.veiled == (Tryz.f4.params.toList ++ Rows.wantMostSpec.plain.varTypes Tryz.prog ++ Tryz.f4.resultTypes.toList).any (Tryz.prog.veiledRec ·))) = true := by kernel_rfl
theorem wantMostWrap : Tryz.f4.isWrapper Tryz.prog Rows.wantMostRow.wrapper Rows.wantMostRow.mainSum := by unfold Func.isWrapper; first | (rw [if_pos (by decide +kernel)]; kernel_rfl) | (rw [if_neg (by decide +kernel)]; exact ⟨rfl, rfl⟩)
theorem wantMostMain : Tryz.prog.mainIs = some (true, "2de9ab4aebe3c4aef0ba2d3f3a7ae3c0feff89b317033773d02f4b0c4c5ea836".toList) := by kernel_rfl
theorem wantMostStand : ([3, 3].all fun u => !Tryz.prog.wantsStandIn u) = true := by kernel_rfl
end Go.Proofs.YtdimdhloklnkmaaGreatDoor
