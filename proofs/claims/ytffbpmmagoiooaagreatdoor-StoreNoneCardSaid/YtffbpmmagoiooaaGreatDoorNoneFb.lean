/- Closed facts of the row of StoreNone; on no condition. -/
import Derived.Test.YtffbpmmagoiooaaGreatDoorTie
import Derived.Test.YtffbpmmagoiooaaGreatDoorCards
import Derived.SevenTiedAt
import Derived.KernelRfl
set_option linter.unusedVariables false
set_option linter.unusedSimpArgs false
namespace Go.Proofs.YtffbpmmagoiooaaGreatDoor
open Go Go.Proofs
theorem storeNoneF1 : (laidOutB Tryz.prog) = true := by kernel_rfl
theorem storeNoneF4 : (namedTie Tryz.prog Rows.storeNoneRow.named Rows.storeNoneSpec.vars) = true := by kernel_rfl
theorem storeNoneF7 : ((Rows.storeNoneRow.knobs == [])) = true := by kernel_rfl
theorem storeNoneF10 : ((Rows.storeNoneRow.unfollowed == Tryz.prog.unfollowed 12)) = true := by kernel_rfl
theorem storeNoneF13 : ((Rows.storeNoneRow.maps == (Tryz.f12.params.toList ++ Rows.storeNoneSpec.plain.varTypes Tryz.prog).any (Tryz.prog.mapsRec ·))) = true := by kernel_rfl
theorem storeNoneF16 : ((Rows.storeNoneRow.loops == (Tryz.f12.params.toList ++ Rows.storeNoneSpec.plain.varTypes Tryz.prog).any (Tryz.prog.loopsFrom ·))) = true := by kernel_rfl
theorem storeNoneF19 : (Tryz.f12.resultTypes.all (fun t => Tryz.prog.readableRec t && decide (t < Tryz.prog.types.size))) = true := by kernel_rfl
theorem storeNoneF22 : ((Rows.storeNoneRow.plainKeys == Tryz.prog.plainKeys)) = true := by kernel_rfl
theorem storeNoneF25 : (Tryz.prog.mayEnter) = true := by kernel_rfl
theorem storeNoneF28 : ((Rows.storeNoneRow.kinds == (if Rows.storeNoneRow.domain.isEmpty then [] else Tryz.f12.params.toList.map fun t => match Tryz.prog.underlying t with | some (.int k) => some k | _ => none))) = true := by kernel_rfl
theorem storeNoneF31 : (Rows.storeNoneRow.veiledFits Tryz.prog Tryz.f12.params.toList (Tryz.f12.params.toList ++ Rows.storeNoneSpec.plain.varTypes Tryz.prog ++ Tryz.f12.resultTypes.toList)) = true := by kernel_rfl
theorem storeNoneInst : Tryz.f12.isInstance Tryz.prog Rows.storeNoneRow.origin Rows.storeNoneRow.targs := of_decide_eq_true (by kernel_rfl)
theorem storeNoneLooks : true = Tryz.prog.looks [] := by kernel_rfl
theorem storeNoneParams : Tryz.f12.params = #[] := rfl
end Go.Proofs.YtffbpmmagoiooaaGreatDoor
