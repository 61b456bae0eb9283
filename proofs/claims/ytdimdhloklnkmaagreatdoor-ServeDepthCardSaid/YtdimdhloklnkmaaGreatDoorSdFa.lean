/- Closed facts of the row of ServeDepth; on no condition. -/
import Derived.Test.YtdimdhloklnkmaaGreatDoorTie
import Derived.Test.YtdimdhloklnkmaaGreatDoorCards
import Derived.SevenTiedAt
import Derived.KernelRfl
import Derived.Test.YtdimdhloklnkmaaGreatDoorNg
set_option linter.unusedVariables false
set_option linter.unusedSimpArgs false
set_option linter.unusedSectionVars false
namespace Go.Proofs.YtdimdhloklnkmaaGreatDoor
open Go Go.Proofs
theorem serveDepthF0 : (Rows.serveDepthRow.wf (OpenSpec.ofChange Rows.serveDepthSpec)) = true := by kernel_rfl
theorem serveDepthF3 : (Tryz.f5.params.all (Tryz.prog.readableRec ·)) = true := by kernel_rfl
theorem serveDepthF6 : ((Tryz.prog.stops == [])) = true := by kernel_rfl
theorem serveDepthF9 : ((Rows.serveDepthRow.inPlace == Tryz.prog.inPlace 5)) = true := by kernel_rfl
theorem serveDepthF12 : ((Rows.serveDepthRow.named == Tryz.prog.varsNamed 5)) = true := by kernel_rfl
theorem serveDepthF15 : ((Rows.serveDepthRow.mapsOut == Tryz.prog.mapsAmong Tryz.f5.resultTypes.toList)) = true := by kernel_rfl
theorem serveDepthF18 : (Rows.serveDepthSpec.vars.all (Tryz.prog.varReadable ·)) = true := by kernel_rfl
theorem serveDepthF21 : ((Rows.serveDepthRow.loopsOut == Tryz.f5.resultTypes.toList.any (Tryz.prog.loopsFrom ·))) = true := by kernel_rfl
theorem serveDepthF24 : (Tryz.prog.stopsHeard) = true := by kernel_rfl
theorem serveDepthF27 : ((Tryz.prog.make == some Rows.serveDepthRow.make)) = true := by kernel_rfl
theorem serveDepthF30 : ((Rows.serveDepthRow.veiled == (Tryz.f5.params.toList ++ Rows.serveDepthSpec.plain.varTypes Tryz.prog ++ Tryz.f5.resultTypes.toList).any (Tryz.prog.veiledRec ·))) = true := by kernel_rfl
theorem serveDepthWrap : Tryz.f5.isWrapper Tryz.prog Rows.serveDepthRow.wrapper Rows.serveDepthRow.mainSum := by unfold Func.isWrapper; first | (rw [if_pos (by decide +kernel)]; kernel_rfl) | (rw [if_neg (by decide +kernel)]; exact ⟨rfl, rfl⟩)
theorem serveDepthMain : Tryz.prog.mainIs = some (true, "2de9ab4aebe3c4aef0ba2d3f3a7ae3c0feff89b317033773d02f4b0c4c5ea836".toList) := by kernel_rfl
theorem serveDepthStand : ([3, 3, 4].all fun u => !Tryz.prog.wantsStandIn u) = true := by kernel_rfl
end Go.Proofs.YtdimdhloklnkmaaGreatDoor
