/- Closed runs of DepthTime; on no condition. -/
import Derived.Test.YtnnfledihhiaiaaGreatDoorDtT
set_option linter.unusedVariables false
set_option linter.unusedSimpArgs false
set_option linter.unusedSectionVars false
namespace Tz
open Go Ax
variable [Ax.Sy]
noncomputable section
set_option maxRecDepth 1000000 in
theorem runDepthTime_6_0 (m n : Int) : allV ts0 (fun t => isTrue (callF (EG m (orcTime m)) 100000 6 [.sint .i64 n [(-9, 6)], t] Hp.empty)) = true := by kernel_rfl
set_option maxRecDepth 1000000 in
theorem runDepthTime_6_1 (m n : Int) : allV ts1 (fun t => isTrue (callF (EG m (orcTime m)) 100000 6 [.sint .i64 n [(-9, 6)], t] Hp.empty)) = true := by kernel_rfl
set_option maxRecDepth 1000000 in
theorem runDepthTime_6_2 (m n : Int) : allV ts2 (fun t => isTrue (callF (EG m (orcTime m)) 100000 6 [.sint .i64 n [(-9, 6)], t] Hp.empty)) = true := by kernel_rfl
set_option maxRecDepth 1000000 in
theorem runDepthTime_6_3 (m n : Int) : allV ts3 (fun t => isTrue (callF (EG m (orcTime m)) 100000 6 [.sint .i64 n [(-9, 6)], t] Hp.empty)) = true := by kernel_rfl
set_option maxRecDepth 1000000 in
theorem runDepthTime_6_4 (m n : Int) : allV ts4 (fun t => isTrue (callF (EG m (orcTime m)) 100000 6 [.sint .i64 n [(-9, 6)], t] Hp.empty)) = true := by kernel_rfl
end
end Tz
