/- Closed facts of the row of DiskFull; on no condition. -/
import Derived.Test.YtffbpmmagoiooaaGreatDoorTie
import Derived.Test.YtffbpmmagoiooaaGreatDoorCards
import Derived.SevenTiedAt
import Derived.KernelRfl
set_option linter.unusedVariables false
set_option linter.unusedSimpArgs false
namespace Go.Proofs.YtffbpmmagoiooaaGreatDoor
open Go Go.Proofs
theorem diskFullF1 : (laidOutB Tryz.prog) = true := by kernel_rfl
theorem diskFullF4 : (namedTie Tryz.prog Rows.diskFullRow.named Rows.diskFullSpec.vars) = true := by kernel_rfl
theorem diskFullF7 : ((Rows.diskFullRow.knobs == [])) = true := by kernel_rfl
theorem diskFullF10 : ((Rows.diskFullRow.unfollowed == Tryz.prog.unfollowed 3)) = true := by kernel_rfl
theorem diskFullF13 : ((Rows.diskFullRow.maps == (Tryz.f3.params.toList ++ Rows.diskFullSpec.plain.varTypes Tryz.prog).any (Tryz.prog.mapsRec ·))) = true := by kernel_rfl
theorem diskFullF16 : ((Rows.diskFullRow.loops == (Tryz.f3.params.toList ++ Rows.diskFullSpec.plain.varTypes Tryz.prog).any (Tryz.prog.loopsFrom ·))) = true := by kernel_rfl
theorem diskFullF19 : (Tryz.f3.resultTypes.all (fun t => Tryz.prog.readableRec t && decide (t < Tryz.prog.types.size))) = true := by kernel_rfl
theorem diskFullF22 : ((Rows.diskFullRow.plainKeys == Tryz.prog.plainKeys)) = true := by kernel_rfl
theorem diskFullF25 : (Tryz.prog.mayEnter) = true := by kernel_rfl
theorem diskFullF28 : ((Rows.diskFullRow.kinds == (if Rows.diskFullRow.domain.isEmpty then [] else Tryz.f3.params.toList.map fun t => match Tryz.prog.underlying t with | some (.int k) => some k | _ => none))) = true := by kernel_rfl
theorem diskFullF31 : (Rows.diskFullRow.veiledFits Tryz.prog Tryz.f3.params.toList (Tryz.f3.params.toList ++ Rows.diskFullSpec.plain.varTypes Tryz.prog ++ Tryz.f3.resultTypes.toList)) = true := by kernel_rfl
theorem diskFullInst : Tryz.f3.isInstance Tryz.prog Rows.diskFullRow.origin Rows.diskFullRow.targs := of_decide_eq_true (by kernel_rfl)
theorem diskFullLooks : true = Tryz.prog.looks [] := by kernel_rfl
theorem diskFullParams : Tryz.f3.params = #[3] := rfl
end Go.Proofs.YtffbpmmagoiooaaGreatDoor
