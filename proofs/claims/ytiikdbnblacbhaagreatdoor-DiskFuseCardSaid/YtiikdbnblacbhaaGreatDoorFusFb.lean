/- Closed facts of the row of DiskFuse; on no condition. -/
import Derived.Test.YtiikdbnblacbhaaGreatDoorTie
import Derived.Test.YtiikdbnblacbhaaGreatDoorCards
import Derived.SevenTiedAt
import Derived.KernelRfl
set_option linter.unusedVariables false
set_option linter.unusedSimpArgs false
set_option linter.unusedSectionVars false
namespace Go.Proofs.YtiikdbnblacbhaaGreatDoor
open Go Go.Proofs
theorem diskFuseF1 : (laidOutB Tryz.prog) = true := by kernel_rfl
theorem diskFuseF4 : (namedTie Tryz.prog Rows.diskFuseRow.named Rows.diskFuseSpec.vars) = true := by kernel_rfl
theorem diskFuseF7 : ((Rows.diskFuseRow.knobs == [])) = true := by kernel_rfl
theorem diskFuseF10 : ((Rows.diskFuseRow.unfollowed == Tryz.prog.unfollowed 7)) = true := by kernel_rfl
theorem diskFuseF13 : ((Rows.diskFuseRow.maps == (Tryz.f7.params.toList ++ Rows.diskFuseSpec.plain.varTypes Tryz.prog).any (Tryz.prog.mapsRec ·))) = true := by kernel_rfl
theorem diskFuseF16 : ((Rows.diskFuseRow.loops == (Tryz.f7.params.toList ++ Rows.diskFuseSpec.plain.varTypes Tryz.prog).any (Tryz.prog.loopsFrom ·))) = true := by kernel_rfl
theorem diskFuseF19 : (Tryz.f7.resultTypes.all (fun t => Tryz.prog.readableRec t && decide (t < Tryz.prog.types.size))) = true := by kernel_rfl
theorem diskFuseF22 : ((Rows.diskFuseRow.plainKeys == Tryz.prog.plainKeys)) = true := by kernel_rfl
theorem diskFuseF25 : (Tryz.prog.mayEnter) = true := by kernel_rfl
theorem diskFuseF28 : ((Rows.diskFuseRow.kinds == (if Rows.diskFuseRow.domain.isEmpty then [] else Tryz.f7.params.toList.map fun t => match Tryz.prog.underlying t with | some (.int k) => some k | _ => none))) = true := by kernel_rfl
theorem diskFuseF31 : (Rows.diskFuseRow.veiledFits Tryz.prog Tryz.f7.params.toList (Tryz.f7.params.toList ++ Rows.diskFuseSpec.plain.varTypes Tryz.prog ++ Tryz.f7.resultTypes.toList)) = true := by kernel_rfl
theorem diskFuseInst : Tryz.f7.isInstance Tryz.prog Rows.diskFuseRow.origin Rows.diskFuseRow.targs := of_decide_eq_true (by kernel_rfl)
theorem diskFuseLooks : true = Tryz.prog.looks [] := by kernel_rfl
theorem diskFuseParams : Tryz.f7.params = #[3, 3, 25] := rfl
end Go.Proofs.YtiikdbnblacbhaaGreatDoor
