/- Closed facts of the row of LinkShallow; on no condition. -/
import Derived.Test.YtnnfledihhiaiaaGreatDoorTie
import Derived.Test.YtnnfledihhiaiaaGreatDoorCards
import Derived.SevenTiedAt
import Derived.KernelRfl
set_option linter.unusedVariables false
set_option linter.unusedSimpArgs false
set_option linter.unusedSectionVars false
namespace Go.Proofs.YtnnfledihhiaiaaGreatDoor
open Go Go.Proofs
theorem linkShallowF1 : (laidOutB Tryz.prog) = true := by kernel_rfl
theorem linkShallowF4 : (namedTie Tryz.prog Rows.linkShallowRow.named Rows.linkShallowSpec.vars) = true := by kernel_rfl
theorem linkShallowF7 : ((Rows.linkShallowRow.knobs == [])) = true := by kernel_rfl
theorem linkShallowF10 : ((Rows.linkShallowRow.unfollowed == Tryz.prog.unfollowed 10)) = true := by kernel_rfl
theorem linkShallowF13 : ((Rows.linkShallowRow.maps == (Tryz.f10.params.toList ++ Rows.linkShallowSpec.plain.varTypes Tryz.prog).any (Tryz.prog.mapsRec ·))) = true := by kernel_rfl
theorem linkShallowF16 : ((Rows.linkShallowRow.loops == (Tryz.f10.params.toList ++ Rows.linkShallowSpec.plain.varTypes Tryz.prog).any (Tryz.prog.loopsFrom ·))) = true := by kernel_rfl
theorem linkShallowF19 : (Tryz.f10.resultTypes.all (fun t => Tryz.prog.readableRec t && decide (t < Tryz.prog.types.size))) = true := by kernel_rfl
theorem linkShallowF22 : ((Rows.linkShallowRow.plainKeys == Tryz.prog.plainKeys)) = true := by kernel_rfl
theorem linkShallowF25 : (Tryz.prog.mayEnter) = true := by kernel_rfl
theorem linkShallowF28 : ((Rows.linkShallowRow.kinds == (if Rows.linkShallowRow.domain.isEmpty then [] else Tryz.f10.params.toList.map fun t => match Tryz.prog.underlying t with | some (.int k) => some k | _ => none))) = true := by kernel_rfl
theorem linkShallowF31 : (Rows.linkShallowRow.veiledFits Tryz.prog Tryz.f10.params.toList (Tryz.f10.params.toList ++ Rows.linkShallowSpec.plain.varTypes Tryz.prog ++ Tryz.f10.resultTypes.toList)) = true := by kernel_rfl
theorem linkShallowInst : Tryz.f10.isInstance Tryz.prog Rows.linkShallowRow.origin Rows.linkShallowRow.targs := of_decide_eq_true (by kernel_rfl)
theorem linkShallowLooks : true = Tryz.prog.looks [] := by kernel_rfl
theorem linkShallowParams : Tryz.f10.params = #[3, 4, 4] := rfl
end Go.Proofs.YtnnfledihhiaiaaGreatDoor
