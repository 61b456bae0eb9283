/- Closed facts of the row of WantMost; on no condition. -/
import Derived.Test.YtdimdhloklnkmaaGreatDoorTie
import Derived.Test.YtdimdhloklnkmaaGreatDoorCards
import Derived.SevenTiedAt
import Derived.KernelRfl
import Derived.Test.YtdimdhloklnkmaaGreatDoorNg
set_option linter.unusedVariables false
set_option linter.unusedSimpArgs false
set_option linter.unusedSectionVars false
namespace Go.Proofs.YtdimdhloklnkmaaGreatDoor
open Go Go.Proofs
theorem wantMostF1 : (laidOutB Tryz.prog) = true := by kernel_rfl
theorem wantMostF4 : (namedTie Tryz.prog Rows.wantMostRow.named Rows.wantMostSpec.vars) = true := by kernel_rfl
theorem wantMostF7 : ((Rows.wantMostRow.knobs == [])) = true := by kernel_rfl
theorem wantMostF10 : ((Rows.wantMostRow.unfollowed == Tryz.prog.unfollowed 4)) = true := by kernel_rfl
theorem wantMostF13 : ((Rows.wantMostRow.maps == (Tryz.f4.params.toList ++ Rows.wantMostSpec.plain.varTypes Tryz.prog).any (Tryz.prog.mapsRec ·))) = true := by kernel_rfl
theorem wantMostF16 : ((Rows.wantMostRow.loops == (Tryz.f4.params.toList ++ Rows.wantMostSpec.plain.varTypes Tryz.prog).any (Tryz.prog.loopsFrom ·))) = true := by kernel_rfl
theorem wantMostF19 : (Tryz.f4.resultTypes.all (fun t => Tryz.prog.readableRec t && decide (t < Tryz.prog.types.size))) = true := by kernel_rfl
theorem wantMostF22 : ((Rows.wantMostRow.plainKeys == Tryz.prog.plainKeys)) = true := by kernel_rfl
theorem wantMostF25 : (Tryz.prog.mayEnter) = true := by kernel_rfl
theorem wantMostF28 : ((Rows.wantMostRow.kinds == (if Rows.wantMostRow.domain.isEmpty then [] else Tryz.f4.params.toList.map fun t => match Tryz.prog.underlying t with | some (.int k) => some k | _ => none))) = true := by kernel_rfl
theorem wantMostF31 : (Rows.wantMostRow.veiledFits Tryz.prog Tryz.f4.params.toList (Tryz.f4.params.toList ++ Rows.wantMostSpec.plain.varTypes Tryz.prog ++ Tryz.f4.resultTypes.toList)) = true := by kernel_rfl
theorem wantMostInst : Tryz.f4.isInstance Tryz.prog Rows.wantMostRow.origin Rows.wantMostRow.targs := of_decide_eq_true (by kernel_rfl)
theorem wantMostLooks : true = Tryz.prog.looks [] := by kernel_rfl
theorem wantMostParams : Tryz.f4.params = #[3, 3] := rfl
end Go.Proofs.YtdimdhloklnkmaaGreatDoor
