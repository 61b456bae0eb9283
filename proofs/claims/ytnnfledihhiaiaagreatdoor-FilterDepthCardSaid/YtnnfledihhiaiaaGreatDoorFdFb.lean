/- Closed facts of the row of FilterDepth; on no condition. -/
import Derived.Test.YtnnfledihhiaiaaGreatDoorTie
import Derived.Test.YtnnfledihhiaiaaGreatDoorCards
import Derived.SevenTiedAt
import Derived.KernelRfl
set_option linter.unusedVariables false
set_option linter.unusedSimpArgs false
set_option linter.unusedSectionVars false
namespace Go.Proofs.YtnnfledihhiaiaaGreatDoor
open Go Go.Proofs
theorem filterDepthF1 : (laidOutB Tryz.prog) = true := by kernel_rfl
theorem filterDepthF4 : (namedTie Tryz.prog Rows.filterDepthRow.named Rows.filterDepthSpec.vars) = true := by kernel_rfl
theorem filterDepthF7 : ((Rows.filterDepthRow.knobs == [])) = true := by kernel_rfl
theorem filterDepthF10 : ((Rows.filterDepthRow.unfollowed == Tryz.prog.unfollowed 8)) = true := by kernel_rfl
theorem filterDepthF13 : ((Rows.filterDepthRow.maps == (Tryz.f8.params.toList ++ Rows.filterDepthSpec.plain.varTypes Tryz.prog).any (Tryz.prog.mapsRec ·))) = true := by kernel_rfl
theorem filterDepthF16 : ((Rows.filterDepthRow.loops == (Tryz.f8.params.toList ++ Rows.filterDepthSpec.plain.varTypes Tryz.prog).any (Tryz.prog.loopsFrom ·))) = true := by kernel_rfl
theorem filterDepthF19 : (Tryz.f8.resultTypes.all (fun t => Tryz.prog.readableRec t && decide (t < Tryz.prog.types.size))) = true := by kernel_rfl
theorem filterDepthF22 : ((Rows.filterDepthRow.plainKeys == Tryz.prog.plainKeys)) = true := by kernel_rfl
theorem filterDepthF25 : (Tryz.prog.mayEnter) = true := by kernel_rfl
theorem filterDepthF28 : ((Rows.filterDepthRow.kinds == (if Rows.filterDepthRow.domain.isEmpty then [] else Tryz.f8.params.toList.map fun t => match Tryz.prog.underlying t with | some (.int k) => some k | _ => none))) = true := by kernel_rfl
theorem filterDepthF31 : (Rows.filterDepthRow.veiledFits Tryz.prog Tryz.f8.params.toList (Tryz.f8.params.toList ++ Rows.filterDepthSpec.plain.varTypes Tryz.prog ++ Tryz.f8.resultTypes.toList)) = true := by kernel_rfl
theorem filterDepthInst : Tryz.f8.isInstance Tryz.prog Rows.filterDepthRow.origin Rows.filterDepthRow.targs := of_decide_eq_true (by kernel_rfl)
theorem filterDepthLooks : true = Tryz.prog.looks [] := by kernel_rfl
theorem filterDepthParams : Tryz.f8.params = #[3, 3] := rfl
end Go.Proofs.YtnnfledihhiaiaaGreatDoor
