/- Closed facts of the row of DepthMerge; on no condition. -/
import Derived.Test.YtcbogemnimpkcaaGreatDoorTie
import Derived.Test.YtcbogemnimpkcaaGreatDoorCards
import Derived.SevenTiedAt
import Derived.KernelRfl
set_option linter.unusedVariables false
set_option linter.unusedSimpArgs false
set_option linter.unusedSectionVars false
namespace Go.Proofs.YtcbogemnimpkcaaGreatDoor
open Go Go.Proofs
theorem depthMergeF1 : (laidOutB Tryz.prog) = true := by kernel_rfl
theorem depthMergeF4 : (namedTie Tryz.prog Rows.depthMergeRow.named Rows.depthMergeSpec.vars) = true := by kernel_rfl
theorem depthMergeF7 : ((Rows.depthMergeRow.knobs == [])) = true := by kernel_rfl
theorem depthMergeF10 : ((Rows.depthMergeRow.unfollowed == Tryz.prog.unfollowed 3)) = true := by kernel_rfl
theorem depthMergeF13 : ((Rows.depthMergeRow.maps == (Tryz.f3.params.toList ++ Rows.depthMergeSpec.plain.varTypes Tryz.prog).any (Tryz.prog.mapsRec ·))) = true := by kernel_rfl
theorem depthMergeF16 : ((Rows.depthMergeRow.loops == (Tryz.f3.params.toList ++ Rows.depthMergeSpec.plain.varTypes Tryz.prog).any (Tryz.prog.loopsFrom ·))) = true := by kernel_rfl
theorem depthMergeF19 : (Tryz.f3.resultTypes.all (fun t => Tryz.prog.readableRec t && decide (t < Tryz.prog.types.size))) = true := by kernel_rfl
theorem depthMergeF22 : ((Rows.depthMergeRow.plainKeys == Tryz.prog.plainKeys)) = true := by kernel_rfl
theorem depthMergeF25 : (Tryz.prog.mayEnter) = true := by kernel_rfl
theorem depthMergeF28 : ((Rows.depthMergeRow.kinds == (if Rows.depthMergeRow.domain.isEmpty then [] else Tryz.f3.params.toList.map fun t => match Tryz.prog.underlying t with | some (.int k) => some k | _ => none))) = true := by kernel_rfl
theorem depthMergeF31 : (Rows.depthMergeRow.veiledFits Tryz.prog Tryz.f3.params.toList (Tryz.f3.params.toList ++ Rows.depthMergeSpec.plain.varTypes Tryz.prog ++ Tryz.f3.resultTypes.toList)) = true := by kernel_rfl
theorem depthMergeInst : Tryz.f3.isInstance Tryz.prog Rows.depthMergeRow.origin Rows.depthMergeRow.targs := of_decide_eq_true (by kernel_rfl)
theorem depthMergeLooks : true = Tryz.prog.looks [] := by kernel_rfl
theorem depthMergeParams : Tryz.f3.params = #[22, 22, 23] := rfl
end Go.Proofs.YtcbogemnimpkcaaGreatDoor
