/- Closed facts of the row of LinkNone; on no condition. -/
import Derived.Test.YtnnfledihhiaiaaGreatDoorTie
import Derived.Test.YtnnfledihhiaiaaGreatDoorCards
import Derived.SevenTiedAt
import Derived.KernelRfl
set_option linter.unusedVariables false
set_option linter.unusedSimpArgs false
set_option linter.unusedSectionVars false
namespace Go.Proofs.YtnnfledihhiaiaaGreatDoor
open Go Go.Proofs
theorem linkNoneF1 : (laidOutB Tryz.prog) = true := by kernel_rfl
theorem linkNoneF4 : (namedTie Tryz.prog Rows.linkNoneRow.named Rows.linkNoneSpec.vars) = true := by kernel_rfl
theorem linkNoneF7 : ((Rows.linkNoneRow.knobs == [])) = true := by kernel_rfl
theorem linkNoneF10 : ((Rows.linkNoneRow.unfollowed == Tryz.prog.unfollowed 3)) = true := by kernel_rfl
theorem linkNoneF13 : ((Rows.linkNoneRow.maps == (Tryz.f3.params.toList ++ Rows.linkNoneSpec.plain.varTypes Tryz.prog).any (Tryz.prog.mapsRec ·))) = true := by kernel_rfl
theorem linkNoneF16 : ((Rows.linkNoneRow.loops == (Tryz.f3.params.toList ++ Rows.linkNoneSpec.plain.varTypes Tryz.prog).any (Tryz.prog.loopsFrom ·))) = true := by kernel_rfl
theorem linkNoneF19 : (Tryz.f3.resultTypes.all (fun t => Tryz.prog.readableRec t && decide (t < Tryz.prog.types.size))) = true := by kernel_rfl
theorem linkNoneF22 : ((Rows.linkNoneRow.plainKeys == Tryz.prog.plainKeys)) = true := by kernel_rfl
theorem linkNoneF25 : (Tryz.prog.mayEnter) = true := by kernel_rfl
theorem linkNoneF28 : ((Rows.linkNoneRow.kinds == (if Rows.linkNoneRow.domain.isEmpty then [] else Tryz.f3.params.toList.map fun t => match Tryz.prog.underlying t with | some (.int k) => some k | _ => none))) = true := by kernel_rfl
theorem linkNoneF31 : (Rows.linkNoneRow.veiledFits Tryz.prog Tryz.f3.params.toList (Tryz.f3.params.toList ++ Rows.linkNoneSpec.plain.varTypes Tryz.prog ++ Tryz.f3.resultTypes.toList)) = true := by kernel_rfl
theorem linkNoneInst : Tryz.f3.isInstance Tryz.prog Rows.linkNoneRow.origin Rows.linkNoneRow.targs := of_decide_eq_true (by kernel_rfl)
theorem linkNoneLooks : true = Tryz.prog.looks [] := by kernel_rfl
theorem linkNoneParams : Tryz.f3.params = #[] := rfl
end Go.Proofs.YtnnfledihhiaiaaGreatDoor
