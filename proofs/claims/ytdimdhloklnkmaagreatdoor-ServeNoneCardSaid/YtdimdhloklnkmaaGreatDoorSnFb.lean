/- Closed facts of the row of ServeNone; on no condition. -/
import Derived.Test.YtdimdhloklnkmaaGreatDoorTie
import Derived.Test.YtdimdhloklnkmaaGreatDoorCards
import Derived.SevenTiedAt
import Derived.KernelRfl
import Derived.Test.YtdimdhloklnkmaaGreatDoorNg
set_option linter.unusedVariables false
set_option linter.unusedSimpArgs false
set_option linter.unusedSectionVars false
namespace Go.Proofs.YtdimdhloklnkmaaGreatDoor
open Go Go.Proofs
theorem serveNoneF1 : (laidOutB Tryz.prog) = true := by kernel_rfl
theorem serveNoneF4 : (namedTie Tryz.prog Rows.serveNoneRow.named Rows.serveNoneSpec.vars) = true := by kernel_rfl
theorem serveNoneF7 : ((Rows.serveNoneRow.knobs == [])) = true := by kernel_rfl
theorem serveNoneF10 : ((Rows.serveNoneRow.unfollowed == Tryz.prog.unfollowed 3)) = true := by kernel_rfl
theorem serveNoneF13 : ((Rows.serveNoneRow.maps == (Tryz.f3.params.toList ++ Rows.serveNoneSpec.plain.varTypes Tryz.prog).any (Tryz.prog.mapsRec ·))) = true := by kernel_rfl
theorem serveNoneF16 : ((Rows.serveNoneRow.loops == (Tryz.f3.params.toList ++ Rows.serveNoneSpec.plain.varTypes Tryz.prog).any (Tryz.prog.loopsFrom ·))) = true := by kernel_rfl
theorem serveNoneF19 : (Tryz.f3.resultTypes.all (fun t => Tryz.prog.readableRec t && decide (t < Tryz.prog.types.size))) = true := by kernel_rfl
theorem serveNoneF22 : ((Rows.serveNoneRow.plainKeys == Tryz.prog.plainKeys)) = true := by kernel_rfl
theorem serveNoneF25 : (Tryz.prog.mayEnter) = true := by kernel_rfl
theorem serveNoneF28 : ((Rows.serveNoneRow.kinds == (if Rows.serveNoneRow.domain.isEmpty then [] else Tryz.f3.params.toList.map fun t => match Tryz.prog.underlying t with | some (.int k) => some k | _ => none))) = true := by kernel_rfl
theorem serveNoneF31 : (Rows.serveNoneRow.veiledFits Tryz.prog Tryz.f3.params.toList (Tryz.f3.params.toList ++ Rows.serveNoneSpec.plain.varTypes Tryz.prog ++ Tryz.f3.resultTypes.toList)) = true := by kernel_rfl
theorem serveNoneInst : Tryz.f3.isInstance Tryz.prog Rows.serveNoneRow.origin Rows.serveNoneRow.targs := of_decide_eq_true (by kernel_rfl)
theorem serveNoneLooks : true = Tryz.prog.looks [] := by kernel_rfl
theorem serveNoneParams : Tryz.f3.params = #[] := rfl
end Go.Proofs.YtdimdhloklnkmaaGreatDoor
