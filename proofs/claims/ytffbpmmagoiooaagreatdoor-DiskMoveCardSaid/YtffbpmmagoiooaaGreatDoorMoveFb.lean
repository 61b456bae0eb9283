/- Closed facts of the row of DiskMove; on no condition. -/
import Derived.Test.YtffbpmmagoiooaaGreatDoorTie
import Derived.Test.YtffbpmmagoiooaaGreatDoorCards
import Derived.SevenTiedAt
import Derived.KernelRfl
set_option linter.unusedVariables false
set_option linter.unusedSimpArgs false
set_option linter.unusedSectionVars false
namespace Go.Proofs.YtffbpmmagoiooaaGreatDoor
open Go Go.Proofs
theorem diskMoveF1 : (laidOutB Tryz.prog) = true := by kernel_rfl
theorem diskMoveF4 : (namedTie Tryz.prog Rows.diskMoveRow.named Rows.diskMoveSpec.vars) = true := by kernel_rfl
theorem diskMoveF7 : ((Rows.diskMoveRow.knobs == [])) = true := by kernel_rfl
theorem diskMoveF10 : ((Rows.diskMoveRow.unfollowed == Tryz.prog.unfollowed 4)) = true := by kernel_rfl
theorem diskMoveF13 : ((Rows.diskMoveRow.maps == (Tryz.f4.params.toList ++ Rows.diskMoveSpec.plain.varTypes Tryz.prog).any (Tryz.prog.mapsRec ·))) = true := by kernel_rfl
theorem diskMoveF16 : ((Rows.diskMoveRow.loops == (Tryz.f4.params.toList ++ Rows.diskMoveSpec.plain.varTypes Tryz.prog).any (Tryz.prog.loopsFrom ·))) = true := by kernel_rfl
theorem diskMoveF19 : (Tryz.f4.resultTypes.all (fun t => Tryz.prog.readableRec t && decide (t < Tryz.prog.types.size))) = true := by kernel_rfl
theorem diskMoveF22 : ((Rows.diskMoveRow.plainKeys == Tryz.prog.plainKeys)) = true := by kernel_rfl
theorem diskMoveF25 : (Tryz.prog.mayEnter) = true := by kernel_rfl
theorem diskMoveF28 : ((Rows.diskMoveRow.kinds == (if Rows.diskMoveRow.domain.isEmpty then [] else Tryz.f4.params.toList.map fun t => match Tryz.prog.underlying t with | some (.int k) => some k | _ => none))) = true := by kernel_rfl
theorem diskMoveF31 : (Rows.diskMoveRow.veiledFits Tryz.prog Tryz.f4.params.toList (Tryz.f4.params.toList ++ Rows.diskMoveSpec.plain.varTypes Tryz.prog ++ Tryz.f4.resultTypes.toList)) = true := by kernel_rfl
theorem diskMoveInst : Tryz.f4.isInstance Tryz.prog Rows.diskMoveRow.origin Rows.diskMoveRow.targs := of_decide_eq_true (by kernel_rfl)
theorem diskMoveLooks : true = Tryz.prog.looks [] := by kernel_rfl
theorem diskMoveParams : Tryz.f4.params = #[9, 9, 32] := rfl
end Go.Proofs.YtffbpmmagoiooaaGreatDoor
