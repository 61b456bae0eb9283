/- Closed facts of the row; on no condition. -/
import Derived.Test.YtiikdbnblacbhaaGreatDoorTie
import Derived.Test.YtiikdbnblacbhaaGreatDoorCards
import Derived.SevenTiedAt
import Derived.KernelRfl
set_option linter.unusedVariables false
set_option linter.unusedSimpArgs false
set_option linter.unusedSectionVars false
namespace Go.Proofs.YtiikdbnblacbhaaGreatDoor
open Go Go.Proofs
theorem storeManyF1 : (laidOutB Tryz.prog) = true := by kernel_rfl
theorem storeManyF4 : (namedTie Tryz.prog Rows.storeManyRow.named Rows.storeManySpec.vars) = true := by kernel_rfl
theorem storeManyF7 : ((Rows.storeManyRow.knobs == [])) = true := by kernel_rfl
theorem storeManyF10 : ((Rows.storeManyRow.unfollowed == Tryz.prog.unfollowed 5)) = true := by kernel_rfl
theorem storeManyF13 : ((Rows.storeManyRow.maps == (Tryz.f5.params.toList ++ Rows.storeManySpec.plain.varTypes Tryz.prog).any (Tryz.prog.mapsRec ·))) = true := by kernel_rfl
theorem storeManyF16 : ((Rows.storeManyRow.loops == (Tryz.f5.params.toList ++ Rows.storeManySpec.plain.varTypes Tryz.prog).any (Tryz.prog.loopsFrom ·))) = true := by kernel_rfl
theorem storeManyF19 : (Tryz.f5.resultTypes.all (fun t => Tryz.prog.readableRec t && decide (t < Tryz.prog.types.size))) = true := by kernel_rfl
theorem storeManyF22 : ((Rows.storeManyRow.plainKeys == Tryz.prog.plainKeys)) = true := by kernel_rfl
theorem storeManyF25 : (Tryz.prog.mayEnter) = true := by kernel_rfl
theorem storeManyF28 : ((Rows.storeManyRow.kinds == (if Rows.storeManyRow.domain.isEmpty then [] else Tryz.f5.params.toList.map fun t => match Tryz.prog.underlying t with | some (.int k) => some k | _ => none))) = true := by kernel_rfl
theorem storeManyF31 : (Rows.storeManyRow.veiledFits Tryz.prog Tryz.f5.params.toList (Tryz.f5.params.toList ++ Rows.storeManySpec.plain.varTypes Tryz.prog ++ Tryz.f5.resultTypes.toList)) = true := by kernel_rfl
theorem storeManyInst : Tryz.f5.isInstance Tryz.prog Rows.storeManyRow.origin Rows.storeManyRow.targs := of_decide_eq_true (by kernel_rfl)
theorem storeManyLooks : true = Tryz.prog.looks [] := by kernel_rfl
theorem storeManyParams : Tryz.f5.params = #[3, 4] := rfl
end Go.Proofs.YtiikdbnblacbhaaGreatDoor
