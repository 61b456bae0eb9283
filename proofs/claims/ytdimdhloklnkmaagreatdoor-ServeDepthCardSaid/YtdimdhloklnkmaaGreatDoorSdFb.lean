/- Closed facts of the row of ServeDepth; on no condition. -/
import Derived.Test.YtdimdhloklnkmaaGreatDoorTie
import Derived.Test.YtdimdhloklnkmaaGreatDoorCards
import Derived.SevenTiedAt
import Derived.KernelRfl
import Derived.Test.YtdimdhloklnkmaaGreatDoorNg
set_option linter.unusedVariables false
set_option linter.unusedSimpArgs false
set_option linter.unusedSectionVars false
namespace Go.Proofs.YtdimdhloklnkmaaGreatDoor
open Go Go.Proofs
theorem serveDepthF1 : (laidOutB Tryz.prog) = true := by kernel_rfl
theorem serveDepthF4 : (namedTie Tryz.prog Rows.serveDepthRow.named Rows.serveDepthSpec.vars) = true := by kernel_rfl
theorem serveDepthF7 : ((Rows.serveDepthRow.knobs == [])) = true := by kernel_rfl
theorem serveDepthF10 : ((Rows.serveDepthRow.unfollowed == Tryz.prog.unfollowed 5)) = true := by kernel_rfl
theorem serveDepthF13 : ((Rows.serveDepthRow.maps == (Tryz.f5.params.toList ++ Rows.serveDepthSpec.plain.varTypes Tryz.prog).any (Tryz.prog.mapsRec ·))) = true := by kernel_rfl
theorem serveDepthF16 : ((Rows.serveDepthRow.loops == (Tryz.f5.params.toList ++ Rows.serveDepthSpec.plain.varTypes Tryz.prog).any (Tryz.prog.loopsFrom ·))) = true := by kernel_rfl
theorem serveDepthF19 : (Tryz.f5.resultTypes.all (fun t => Tryz.prog.readableRec t && decide (t < Tryz.prog.types.size))) = true := by kernel_rfl
theorem serveDepthF22 : ((Rows.serveDepthRow.plainKeys == Tryz.prog.plainKeys)) = true := by kernel_rfl
theorem serveDepthF25 : (Tryz.prog.mayEnter) = true := by kernel_rfl
theorem serveDepthF28 : ((Rows.serveDepthRow.kinds == (if Rows.serveDepthRow.domain.isEmpty then [] else Tryz.f5.params.toList.map fun t => match Tryz.prog.underlying t with | some (.int k) => some k | _ => none))) = true := by kernel_rfl
theorem serveDepthF31 : (Rows.serveDepthRow.veiledFits Tryz.prog Tryz.f5.params.toList (Tryz.f5.params.toList ++ Rows.serveDepthSpec.plain.varTypes Tryz.prog ++ Tryz.f5.resultTypes.toList)) = true := by kernel_rfl
theorem serveDepthInst : Tryz.f5.isInstance Tryz.prog Rows.serveDepthRow.origin Rows.serveDepthRow.targs := of_decide_eq_true (by kernel_rfl)
theorem serveDepthLooks : true = Tryz.prog.looks [] := by kernel_rfl
theorem serveDepthParams : Tryz.f5.params = #[3, 3, 4] := rfl
end Go.Proofs.YtdimdhloklnkmaaGreatDoor
