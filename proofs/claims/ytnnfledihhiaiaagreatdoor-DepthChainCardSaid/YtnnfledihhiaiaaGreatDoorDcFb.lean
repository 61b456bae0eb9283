/- Closed facts of the row of DepthChain; on no condition. -/
import Derived.Test.YtnnfledihhiaiaaGreatDoorTie
import Derived.Test.YtnnfledihhiaiaaGreatDoorCards
import Derived.SevenTiedAt
import Derived.KernelRfl
set_option linter.unusedVariables false
set_option linter.unusedSimpArgs false
set_option linter.unusedSectionVars false
namespace Go.Proofs.YtnnfledihhiaiaaGreatDoor
open Go Go.Proofs
theorem depthChainF1 : (laidOutB Tryz.prog) = true := by kernel_rfl
theorem depthChainF4 : (namedTie Tryz.prog Rows.depthChainRow.named Rows.depthChainSpec.vars) = true := by kernel_rfl
theorem depthChainF7 : ((Rows.depthChainRow.knobs == [])) = true := by kernel_rfl
theorem depthChainF10 : ((Rows.depthChainRow.unfollowed == Tryz.prog.unfollowed 5)) = true := by kernel_rfl
theorem depthChainF13 : ((Rows.depthChainRow.maps == (Tryz.f5.params.toList ++ Rows.depthChainSpec.plain.varTypes Tryz.prog).any (Tryz.prog.mapsRec ·))) = true := by kernel_rfl
theorem depthChainF16 : ((Rows.depthChainRow.loops == (Tryz.f5.params.toList ++ Rows.depthChainSpec.plain.varTypes Tryz.prog).any (Tryz.prog.loopsFrom ·))) = true := by kernel_rfl
theorem depthChainF19 : (Tryz.f5.resultTypes.all (fun t => Tryz.prog.readableRec t && decide (t < Tryz.prog.types.size))) = true := by kernel_rfl
theorem depthChainF22 : ((Rows.depthChainRow.plainKeys == Tryz.prog.plainKeys)) = true := by kernel_rfl
theorem depthChainF25 : (Tryz.prog.mayEnter) = true := by kernel_rfl
theorem depthChainF28 : ((Rows.depthChainRow.kinds == (if Rows.depthChainRow.domain.isEmpty then [] else Tryz.f5.params.toList.map fun t => match Tryz.prog.underlying t with | some (.int k) => some k | _ => none))) = true := by kernel_rfl
theorem depthChainF31 : (Rows.depthChainRow.veiledFits Tryz.prog Tryz.f5.params.toList (Tryz.f5.params.toList ++ Rows.depthChainSpec.plain.varTypes Tryz.prog ++ Tryz.f5.resultTypes.toList)) = true := by kernel_rfl
theorem depthChainInst : Tryz.f5.isInstance Tryz.prog Rows.depthChainRow.origin Rows.depthChainRow.targs := of_decide_eq_true (by kernel_rfl)
theorem depthChainLooks : true = Tryz.prog.looks [] := by kernel_rfl
theorem depthChainParams : Tryz.f5.params = #[3, 3] := rfl
end Go.Proofs.YtnnfledihhiaiaaGreatDoor
