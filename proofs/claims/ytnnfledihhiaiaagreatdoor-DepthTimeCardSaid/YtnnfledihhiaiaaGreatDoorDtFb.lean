/- Closed facts of the row of DepthTime; on no condition. -/
import Derived.Test.YtnnfledihhiaiaaGreatDoorTie
import Derived.Test.YtnnfledihhiaiaaGreatDoorCards
import Derived.SevenTiedAt
import Derived.KernelRfl
set_option linter.unusedVariables false
set_option linter.unusedSimpArgs false
set_option linter.unusedSectionVars false
namespace Go.Proofs.YtnnfledihhiaiaaGreatDoor
open Go Go.Proofs
theorem depthTimeF1 : (laidOutB Tryz.prog) = true := by kernel_rfl
theorem depthTimeF4 : (namedTie Tryz.prog Rows.depthTimeRow.named Rows.depthTimeSpec.vars) = true := by kernel_rfl
theorem depthTimeF7 : ((Rows.depthTimeRow.knobs == [])) = true := by kernel_rfl
theorem depthTimeF10 : ((Rows.depthTimeRow.unfollowed == Tryz.prog.unfollowed 6)) = true := by kernel_rfl
theorem depthTimeF13 : ((Rows.depthTimeRow.maps == (Tryz.f6.params.toList ++ Rows.depthTimeSpec.plain.varTypes Tryz.prog).any (Tryz.prog.mapsRec ·))) = true := by kernel_rfl
theorem depthTimeF16 : ((Rows.depthTimeRow.loops == (Tryz.f6.params.toList ++ Rows.depthTimeSpec.plain.varTypes Tryz.prog).any (Tryz.prog.loopsFrom ·))) = true := by kernel_rfl
theorem depthTimeF19 : (Tryz.f6.resultTypes.all (fun t => Tryz.prog.readableRec t && decide (t < Tryz.prog.types.size))) = true := by kernel_rfl
theorem depthTimeF22 : ((Rows.depthTimeRow.plainKeys == Tryz.prog.plainKeys)) = true := by kernel_rfl
theorem depthTimeF25 : (Tryz.prog.mayEnter) = true := by kernel_rfl
theorem depthTimeF28 : ((Rows.depthTimeRow.kinds == (if Rows.depthTimeRow.domain.isEmpty then [] else Tryz.f6.params.toList.map fun t => match Tryz.prog.underlying t with | some (.int k) => some k | _ => none))) = true := by kernel_rfl
theorem depthTimeF31 : (Rows.depthTimeRow.veiledFits Tryz.prog Tryz.f6.params.toList (Tryz.f6.params.toList ++ Rows.depthTimeSpec.plain.varTypes Tryz.prog ++ Tryz.f6.resultTypes.toList)) = true := by kernel_rfl
theorem depthTimeInst : Tryz.f6.isInstance Tryz.prog Rows.depthTimeRow.origin Rows.depthTimeRow.targs := of_decide_eq_true (by kernel_rfl)
theorem depthTimeLooks : true = Tryz.prog.looks [] := by kernel_rfl
theorem depthTimeParams : Tryz.f6.params = #[3, 27] := rfl
end Go.Proofs.YtnnfledihhiaiaaGreatDoor
