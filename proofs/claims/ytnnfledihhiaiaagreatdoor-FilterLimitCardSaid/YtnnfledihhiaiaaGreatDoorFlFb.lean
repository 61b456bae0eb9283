/- Closed facts of the row of FilterLimit; on no condition. -/
import Derived.Test.YtnnfledihhiaiaaGreatDoorTie
import Derived.Test.YtnnfledihhiaiaaGreatDoorCards
import Derived.SevenTiedAt
import Derived.KernelRfl
set_option linter.unusedVariables false
set_option linter.unusedSimpArgs false
set_option linter.unusedSectionVars false
namespace Go.Proofs.YtnnfledihhiaiaaGreatDoor
open Go Go.Proofs
theorem filterLimitF1 : (laidOutB Tryz.prog) = true := by kernel_rfl
theorem filterLimitF4 : (namedTie Tryz.prog Rows.filterLimitRow.named Rows.filterLimitSpec.vars) = true := by kernel_rfl
theorem filterLimitF7 : ((Rows.filterLimitRow.knobs == [])) = true := by kernel_rfl
theorem filterLimitF10 : ((Rows.filterLimitRow.unfollowed == Tryz.prog.unfollowed 9)) = true := by kernel_rfl
theorem filterLimitF13 : ((Rows.filterLimitRow.maps == (Tryz.f9.params.toList ++ Rows.filterLimitSpec.plain.varTypes Tryz.prog).any (Tryz.prog.mapsRec ·))) = true := by kernel_rfl
theorem filterLimitF16 : ((Rows.filterLimitRow.loops == (Tryz.f9.params.toList ++ Rows.filterLimitSpec.plain.varTypes Tryz.prog).any (Tryz.prog.loopsFrom ·))) = true := by kernel_rfl
theorem filterLimitF19 : (Tryz.f9.resultTypes.all (fun t => Tryz.prog.readableRec t && decide (t < Tryz.prog.types.size))) = true := by kernel_rfl
theorem filterLimitF22 : ((Rows.filterLimitRow.plainKeys == Tryz.prog.plainKeys)) = true := by kernel_rfl
theorem filterLimitF25 : (Tryz.prog.mayEnter) = true := by kernel_rfl
theorem filterLimitF28 : ((Rows.filterLimitRow.kinds == (if Rows.filterLimitRow.domain.isEmpty then [] else Tryz.f9.params.toList.map fun t => match Tryz.prog.underlying t with | some (.int k) => some k | _ => none))) = true := by kernel_rfl
theorem filterLimitF31 : (Rows.filterLimitRow.veiledFits Tryz.prog Tryz.f9.params.toList (Tryz.f9.params.toList ++ Rows.filterLimitSpec.plain.varTypes Tryz.prog ++ Tryz.f9.resultTypes.toList)) = true := by kernel_rfl
theorem filterLimitInst : Tryz.f9.isInstance Tryz.prog Rows.filterLimitRow.origin Rows.filterLimitRow.targs := of_decide_eq_true (by kernel_rfl)
theorem filterLimitLooks : true = Tryz.prog.looks [] := by kernel_rfl
theorem filterLimitParams : Tryz.f9.params = #[3, 3, 4] := rfl
end Go.Proofs.YtnnfledihhiaiaaGreatDoor
