/- Closed facts of the row of DepthMerge; on no condition. -/
import Derived.Test.YtcbogemnimpkcaaGreatDoorTie
import Derived.Test.YtcbogemnimpkcaaGreatDoorCards
import Derived.SevenTiedAt
import Derived.KernelRfl
set_option linter.unusedVariables false
set_option linter.unusedSimpArgs false
set_option linter.unusedSectionVars false
namespace Go.Proofs.YtcbogemnimpkcaaGreatDoor
open Go Go.Proofs
theorem depthMergeF0 : (Rows.depthMergeRow.wf (OpenSpec.ofChange Rows.depthMergeSpec)) = true := by kernel_rfl
theorem depthMergeF3 : (Tryz.f3.params.all (Tryz.prog.readableRec ·)) = true := by kernel_rfl
theorem depthMergeF6 : ((Tryz.prog.stops == [])) = true := by kernel_rfl
theorem depthMergeF9 : ((Rows.depthMergeRow.inPlace == Tryz.prog.inPlace 3)) = true := by kernel_rfl
theorem depthMergeF12 : ((Rows.depthMergeRow.named == Tryz.prog.varsNamed 3)) = true := by kernel_rfl
theorem depthMergeF15 : ((Rows.depthMergeRow.mapsOut == Tryz.prog.mapsAmong Tryz.f3.resultTypes.toList)) = true := by kernel_rfl
theorem depthMergeF18 : (Rows.depthMergeSpec.vars.all (Tryz.prog.varReadable ·)) = true := by kernel_rfl
theorem depthMergeF21 : ((Rows.depthMergeRow.loopsOut == Tryz.f3.resultTypes.toList.any (Tryz.prog.loopsFrom ·))) = true := by kernel_rfl
theorem depthMergeF24 : (Tryz.prog.stopsHeard) = true := by kernel_rfl
theorem depthMergeF27 : ((Tryz.prog.make == some Rows.depthMergeRow.make)) = true := by kernel_rfl
theorem depthMergeF30 : ((Rows.depthMergeRow.veiled == (Tryz.f3.params.toList ++ Rows.depthMergeSpec.plain.varTypes Tryz.prog ++ Tryz.f3.resultTypes.toList).any (Tryz.prog.veiledRec ·))) = true := by kernel_rfl
theorem depthMergeWrap : Tryz.f3.isWrapper Tryz.prog Rows.depthMergeRow.wrapper Rows.depthMergeRow.mainSum := by unfold Func.isWrapper; first | (rw [if_pos (by decide +kernel)]; kernel_rfl) | (rw [if_neg (by decide +kernel)]; exact ⟨rfl, rfl⟩)
theorem depthMergeMain : Tryz.prog.mainIs = some (true, "bd43c771b12b21bb6795c21970a66704708a86a13902edf781deeb3a13416ef4".toList) := by kernel_rfl
theorem depthMergeStand : ([22, 22, 23].all fun u => !Tryz.prog.wantsStandIn u) = true := by kernel_rfl
end Go.Proofs.YtcbogemnimpkcaaGreatDoor
