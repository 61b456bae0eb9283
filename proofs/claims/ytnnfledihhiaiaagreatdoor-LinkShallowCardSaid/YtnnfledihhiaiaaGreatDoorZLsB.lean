/- Closed runs of LinkShallow; on no condition. -/
import Derived.Test.YtnnfledihhiaiaaGreatDoorZChn
set_option linter.unusedVariables false
set_option linter.unusedSimpArgs false
set_option linter.unusedSectionVars false
namespace Tz
open Go Ax
variable [Ax.Sy]
noncomputable section
set_option maxRecDepth 1000000 in
theorem runLinkShallow_2_0 (m n : Int) : isTrue (callF (EG m (orcChain m)) 100000 10 [.sint .i64 n [(-5, 2)], .bool false, .bool false] Hp.empty) = true := by kernel_rfl
set_option maxRecDepth 1000000 in
theorem runLinkShallow_2_1 (m n : Int) : isTrue (callF (EG m (orcChain m)) 100000 10 [.sint .i64 n [(-5, 2)], .bool false, .bool true] Hp.empty) = true := by kernel_rfl
set_option maxRecDepth 1000000 in
theorem runLinkShallow_2_2 (m n : Int) : isTrue (callF (EG m (orcChain m)) 100000 10 [.sint .i64 n [(-5, 2)], .bool true, .bool false] Hp.empty) = true := by kernel_rfl
set_option maxRecDepth 1000000 in
theorem runLinkShallow_2_3 (m n : Int) : isTrue (callF (EG m (orcChain m)) 100000 10 [.sint .i64 n [(-5, 2)], .bool true, .bool true] Hp.empty) = true := by kernel_rfl
end
end Tz
namespace Tz
open Go Ax
variable [Ax.Sy]
noncomputable section
set_option maxRecDepth 1000000 in
theorem runLinkShallow_3_0 (m n : Int) : isTrue (callF (EG m (orcChain m)) 100000 10 [.sint .i64 n [(-5, 3)], .bool false, .bool false] Hp.empty) = true := by kernel_rfl
set_option maxRecDepth 1000000 in
theorem runLinkShallow_3_1 (m n : Int) : isTrue (callF (EG m (orcChain m)) 100000 10 [.sint .i64 n [(-5, 3)], .bool false, .bool true] Hp.empty) = true := by kernel_rfl
set_option maxRecDepth 1000000 in
theorem runLinkShallow_3_2 (m n : Int) : isTrue (callF (EG m (orcChain m)) 100000 10 [.sint .i64 n [(-5, 3)], .bool true, .bool false] Hp.empty) = true := by kernel_rfl
set_option maxRecDepth 1000000 in
theorem runLinkShallow_3_3 (m n : Int) : isTrue (callF (EG m (orcChain m)) 100000 10 [.sint .i64 n [(-5, 3)], .bool true, .bool true] Hp.empty) = true := by kernel_rfl
end
end Tz
