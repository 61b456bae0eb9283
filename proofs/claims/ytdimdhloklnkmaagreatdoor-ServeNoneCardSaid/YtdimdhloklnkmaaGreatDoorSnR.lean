/- ServeNone, run; on no condition. -/
import Derived.Test.YtdimdhloklnkmaaGreatDoorBegg
set_option linter.unusedVariables false
set_option linter.unusedSimpArgs false
set_option linter.unusedSectionVars false
namespace Tz
open Go Ax
variable [Ax.Sy]
noncomputable section
set_option maxRecDepth 1000000 in
theorem runServeNone0 (m : Int) : isTrue (callF (EG m (orc19 m)) 100000 3 [] Hp.empty) = true := by kernel_rfl
theorem runServeNone (m : Int) : isTrue (call (EG m (orc19 m)) 100000 3 [] Hp.empty) = true := by rw [← callF_eq]; exact runServeNone0 m
end
end Tz
