/- Closed facts of the row of ServeNone; on no condition. -/
import Derived.Test.YtdimdhloklnkmaaGreatDoorTie
import Derived.Test.YtdimdhloklnkmaaGreatDoorCards
import Derived.SevenTiedAt
import Derived.KernelRfl
import Derived.Test.YtdimdhloklnkmaaGreatDoorNg
set_option linter.unusedVariables false
set_option linter.unusedSimpArgs false
set_option linter.unusedSectionVars false
namespace Go.Proofs.YtdimdhloklnkmaaGreatDoor
open Go Go.Proofs
theorem serveNoneF0 : (Rows.serveNoneRow.wf (OpenSpec.ofChange Rows.serveNoneSpec)) = true := by kernel_rfl
theorem serveNoneF3 : (Tryz.f3.params.all (Tryz.prog.readableRec ·)) = true := by kernel_rfl
theorem serveNoneF6 : ((Tryz.prog.stops == [])) = true := by kernel_rfl
theorem serveNoneF9 : ((Rows.serveNoneRow.inPlace == Tryz.prog.inPlace 3)) = true := by kernel_rfl
theorem serveNoneF12 : ((Rows.serveNoneRow.named == Tryz.prog.varsNamed 3)) = true := by kernel_rfl
theorem serveNoneF15 : ((Rows.serveNoneRow.mapsOut == Tryz.prog.mapsAmong Tryz.f3.resultTypes.toList)) = true := by kernel_rfl
theorem serveNoneF18 : (Rows.serveNoneSpec.vars.all (Tryz.prog.varReadable ·)) = true := by kernel_rfl
theorem serveNoneF21 : ((Rows.serveNoneRow.loopsOut == Tryz.f3.resultTypes.toList.any (Tryz.prog.loopsFrom ·))) = true := by kernel_rfl
theorem serveNoneF24 : (Tryz.prog.stopsHeard) = true := by kernel_rfl
theorem serveNoneF27 : ((Tryz.prog.make == some Rows.serveNoneRow.make)) = true := by kernel_rfl
theorem serveNoneF30 : ((Rows.serveNoneRow.veiled == (Tryz.f3.params.toList ++ Rows.serveNoneSpec.plain.varTypes Tryz.prog ++ Tryz.f3.resultTypes.toList).any (Tryz.prog.veiledRec ·))) = true := by kernel_rfl
theorem serveNoneWrap : Tryz.f3.isWrapper Tryz.prog Rows.serveNoneRow.wrapper Rows.serveNoneRow.mainSum := by unfold Func.isWrapper; first | (rw [if_pos (by decide +kernel)]; kernel_rfl) | (rw [if_neg (by decide +kernel)]; exact ⟨rfl, rfl⟩)
theorem serveNoneMain : Tryz.prog.mainIs = some (true, "2de9ab4aebe3c4aef0ba2d3f3a7ae3c0feff89b317033773d02f4b0c4c5ea836".toList) := by kernel_rfl
theorem serveNoneStand : ([].all fun u => !Tryz.prog.wantsStandIn u) = true := by kernel_rfl
end Go.Proofs.YtdimdhloklnkmaaGreatDoor
