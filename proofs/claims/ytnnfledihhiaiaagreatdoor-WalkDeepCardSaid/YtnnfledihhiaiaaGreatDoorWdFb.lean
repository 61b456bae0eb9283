/- Closed facts of the row of WalkDeep; on no condition. -/
import Derived.Test.YtnnfledihhiaiaaGreatDoorTie
import Derived.Test.YtnnfledihhiaiaaGreatDoorCards
import Derived.SevenTiedAt
import Derived.KernelRfl
set_option linter.unusedVariables false
set_option linter.unusedSimpArgs false
set_option linter.unusedSectionVars false
namespace Go.Proofs.YtnnfledihhiaiaaGreatDoor
open Go Go.Proofs
theorem walkDeepF1 : (laidOutB Tryz.prog) = true := by kernel_rfl
theorem walkDeepF4 : (namedTie Tryz.prog Rows.walkDeepRow.named Rows.walkDeepSpec.vars) = true := by kernel_rfl
theorem walkDeepF7 : ((Rows.walkDeepRow.knobs == [])) = true := by kernel_rfl
theorem walkDeepF10 : ((Rows.walkDeepRow.unfollowed == Tryz.prog.unfollowed 4)) = true := by kernel_rfl
theorem walkDeepF13 : ((Rows.walkDeepRow.maps == (Tryz.f4.params.toList ++ Rows.walkDeepSpec.plain.varTypes Tryz.prog).any (Tryz.prog.mapsRec ·))) = true := by kernel_rfl
theorem walkDeepF16 : ((Rows.walkDeepRow.loops == (Tryz.f4.params.toList ++ Rows.walkDeepSpec.plain.varTypes Tryz.prog).any (Tryz.prog.loopsFrom ·))) = true := by kernel_rfl
theorem walkDeepF19 : (Tryz.f4.resultTypes.all (fun t => Tryz.prog.readableRec t && decide (t < Tryz.prog.types.size))) = true := by kernel_rfl
theorem walkDeepF22 : ((Rows.walkDeepRow.plainKeys == Tryz.prog.plainKeys)) = true := by kernel_rfl
theorem walkDeepF25 : (Tryz.prog.mayEnter) = true := by kernel_rfl
theorem walkDeepF28 : ((Rows.walkDeepRow.kinds == (if Rows.walkDeepRow.domain.isEmpty then [] else Tryz.f4.params.toList.map fun t => match Tryz.prog.underlying t with | some (.int k) => some k | _ => none))) = true := by kernel_rfl
theorem walkDeepF31 : (Rows.walkDeepRow.veiledFits Tryz.prog Tryz.f4.params.toList (Tryz.f4.params.toList ++ Rows.walkDeepSpec.plain.varTypes Tryz.prog ++ Tryz.f4.resultTypes.toList)) = true := by kernel_rfl
theorem walkDeepInst : Tryz.f4.isInstance Tryz.prog Rows.walkDeepRow.origin Rows.walkDeepRow.targs := of_decide_eq_true (by kernel_rfl)
theorem walkDeepLooks : true = Tryz.prog.looks [] := by kernel_rfl
theorem walkDeepParams : Tryz.f4.params = #[3] := rfl
end Go.Proofs.YtnnfledihhiaiaaGreatDoor
