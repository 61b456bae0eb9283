/- Closed facts of the row of DiskAll; on no condition. -/
import Derived.Test.YtiikdbnblacbhaaGreatDoorTie
import Derived.Test.YtiikdbnblacbhaaGreatDoorCards
import Derived.SevenTiedAt
import Derived.KernelRfl
set_option linter.unusedVariables false
set_option linter.unusedSimpArgs false
set_option linter.unusedSectionVars false
namespace Go.Proofs.YtiikdbnblacbhaaGreatDoor
open Go Go.Proofs
theorem diskAllF1 : (laidOutB Tryz.prog) = true := by kernel_rfl
theorem diskAllF4 : (namedTie Tryz.prog Rows.diskAllRow.named Rows.diskAllSpec.vars) = true := by kernel_rfl
theorem diskAllF7 : ((Rows.diskAllRow.knobs == [])) = true := by kernel_rfl
theorem diskAllF10 : ((Rows.diskAllRow.unfollowed == Tryz.prog.unfollowed 6)) = true := by kernel_rfl
theorem diskAllF13 : ((Rows.diskAllRow.maps == (Tryz.f6.params.toList ++ Rows.diskAllSpec.plain.varTypes Tryz.prog).any (Tryz.prog.mapsRec ·))) = true := by kernel_rfl
theorem diskAllF16 : ((Rows.diskAllRow.loops == (Tryz.f6.params.toList ++ Rows.diskAllSpec.plain.varTypes Tryz.prog).any (Tryz.prog.loopsFrom ·))) = true := by kernel_rfl
theorem diskAllF19 : (Tryz.f6.resultTypes.all (fun t => Tryz.prog.readableRec t && decide (t < Tryz.prog.types.size))) = true := by kernel_rfl
theorem diskAllF22 : ((Rows.diskAllRow.plainKeys == Tryz.prog.plainKeys)) = true := by kernel_rfl
theorem diskAllF25 : (Tryz.prog.mayEnter) = true := by kernel_rfl
theorem diskAllF28 : ((Rows.diskAllRow.kinds == (if Rows.diskAllRow.domain.isEmpty then [] else Tryz.f6.params.toList.map fun t => match Tryz.prog.underlying t with | some (.int k) => some k | _ => none))) = true := by kernel_rfl
theorem diskAllF31 : (Rows.diskAllRow.veiledFits Tryz.prog Tryz.f6.params.toList (Tryz.f6.params.toList ++ Rows.diskAllSpec.plain.varTypes Tryz.prog ++ Tryz.f6.resultTypes.toList)) = true := by kernel_rfl
theorem diskAllInst : Tryz.f6.isInstance Tryz.prog Rows.diskAllRow.origin Rows.diskAllRow.targs := of_decide_eq_true (by kernel_rfl)
theorem diskAllLooks : true = Tryz.prog.looks [] := by kernel_rfl
theorem diskAllParams : Tryz.f6.params = #[59] := rfl
end Go.Proofs.YtiikdbnblacbhaaGreatDoor
