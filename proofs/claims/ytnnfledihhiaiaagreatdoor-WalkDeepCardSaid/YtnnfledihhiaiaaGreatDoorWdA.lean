/- Closed runs of WalkDeep; on no condition. -/
import Derived.Test.YtnnfledihhiaiaaGreatDoorZDeep
set_option linter.unusedVariables false
set_option linter.unusedSimpArgs false
set_option linter.unusedSectionVars false
namespace Tz
open Go Ax
variable [Ax.Sy]
noncomputable section
set_option maxRecDepth 1000000 in
theorem runWalkDeep_0_0 (m n : Int) : isTrue (callF (EG m (orcDeep m)) 100000 4 [.sint .i64 n [(-8, 0)]] Hp.empty) = true := by kernel_rfl
set_option maxRecDepth 1000000 in
theorem runWalkDeep_1_0 (m n : Int) : isTrue (callF (EG m (orcDeep m)) 100000 4 [.sint .i64 n [(-8, 1)]] Hp.empty) = true := by kernel_rfl
end
end Tz
namespace Tz
open Go Ax
variable [Ax.Sy]
noncomputable section
set_option maxRecDepth 1000000 in
theorem runWalkDeep_2_0 (m n : Int) : isTrue (callF (EG m (orcDeep m)) 100000 4 [.sint .i64 n [(-8, 2)]] Hp.empty) = true := by kernel_rfl
set_option maxRecDepth 1000000 in
theorem runWalkDeep_3_0 (m n : Int) : isTrue (callF (EG m (orcDeep m)) 100000 4 [.sint .i64 n [(-8, 3)]] Hp.empty) = true := by kernel_rfl
end
end Tz
namespace Tz
open Go Ax
variable [Ax.Sy]
noncomputable section
set_option maxRecDepth 1000000 in
theorem runWalkDeep_4_0 (m n : Int) : isTrue (callF (EG m (orcDeep m)) 100000 4 [.sint .i64 n [(-8, 4)]] Hp.empty) = true := by kernel_rfl
set_option maxRecDepth 1000000 in
theorem runWalkDeep_5_0 (m n : Int) : isTrue (callF (EG m (orcDeep m)) 100000 4 [.sint .i64 n [(-8, 5)]] Hp.empty) = true := by kernel_rfl
end
end Tz
