/- Closed runs of WalkDeep; on no condition. -/
import Derived.Test.YtnnfledihhiaiaaGreatDoorZDeep
set_option linter.unusedVariables false
set_option linter.unusedSimpArgs false
set_option linter.unusedSectionVars false
namespace Tz
open Go Ax
variable [Ax.Sy]
noncomputable section
set_option maxRecDepth 1000000 in
theorem runWalkDeep_6_0 (m n : Int) : isTrue (callF (EG m (orcDeep m)) 100000 4 [.sint .i64 n [(-8, 6)]] Hp.empty) = true := by kernel_rfl
set_option maxRecDepth 1000000 in
theorem runWalkDeep_7_0 (m n : Int) : isTrue (callF (EG m (orcDeep m)) 100000 4 [.sint .i64 n [(-8, 7)]] Hp.empty) = true := by kernel_rfl
end
end Tz
