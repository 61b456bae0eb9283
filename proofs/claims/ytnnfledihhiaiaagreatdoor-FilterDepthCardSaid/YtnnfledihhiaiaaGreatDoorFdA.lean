/- Closed runs of FilterDepth; on no condition. -/
import Derived.Test.YtnnfledihhiaiaaGreatDoorZDeep
set_option linter.unusedVariables false
set_option linter.unusedSimpArgs false
set_option linter.unusedSectionVars false
namespace Tz
open Go Ax
variable [Ax.Sy]
noncomputable section
set_option maxRecDepth 1000000 in
theorem runFilterDepth_0_0_0 (m n d : Int) : allN 0 3 (fun j => isTrue (callF (EG m (orcDeep m)) 100000 8 [.sint .i64 n [(-7, 0)], .sint .i64 d [(-9, .ofNat j)]] Hp.empty)) = true := by kernel_rfl
set_option maxRecDepth 1000000 in
theorem runFilterDepth_0_0_1 (m n d : Int) : allN 3 3 (fun j => isTrue (callF (EG m (orcDeep m)) 100000 8 [.sint .i64 n [(-7, 0)], .sint .i64 d [(-9, .ofNat j)]] Hp.empty)) = true := by kernel_rfl
set_option maxRecDepth 1000000 in
theorem runFilterDepth_0_0_2 (m n d : Int) : allN 6 3 (fun j => isTrue (callF (EG m (orcDeep m)) 100000 8 [.sint .i64 n [(-7, 0)], .sint .i64 d [(-9, .ofNat j)]] Hp.empty)) = true := by kernel_rfl
end
end Tz
namespace Tz
open Go Ax
variable [Ax.Sy]
noncomputable section
set_option maxRecDepth 1000000 in
theorem runFilterDepth_1_0_0 (m n d : Int) : allN 0 3 (fun j => isTrue (callF (EG m (orcDeep m)) 100000 8 [.sint .i64 n [(-7, 1)], .sint .i64 d [(-9, .ofNat j)]] Hp.empty)) = true := by kernel_rfl
set_option maxRecDepth 1000000 in
theorem runFilterDepth_1_0_1 (m n d : Int) : allN 3 3 (fun j => isTrue (callF (EG m (orcDeep m)) 100000 8 [.sint .i64 n [(-7, 1)], .sint .i64 d [(-9, .ofNat j)]] Hp.empty)) = true := by kernel_rfl
set_option maxRecDepth 1000000 in
theorem runFilterDepth_1_0_2 (m n d : Int) : allN 6 3 (fun j => isTrue (callF (EG m (orcDeep m)) 100000 8 [.sint .i64 n [(-7, 1)], .sint .i64 d [(-9, .ofNat j)]] Hp.empty)) = true := by kernel_rfl
end
end Tz
namespace Tz
open Go Ax
variable [Ax.Sy]
noncomputable section
set_option maxRecDepth 1000000 in
theorem runFilterDepth_2_0_0 (m n d : Int) : allN 0 3 (fun j => isTrue (callF (EG m (orcDeep m)) 100000 8 [.sint .i64 n [(-7, 2)], .sint .i64 d [(-9, .ofNat j)]] Hp.empty)) = true := by kernel_rfl
set_option maxRecDepth 1000000 in
theorem runFilterDepth_2_0_1 (m n d : Int) : allN 3 3 (fun j => isTrue (callF (EG m (orcDeep m)) 100000 8 [.sint .i64 n [(-7, 2)], .sint .i64 d [(-9, .ofNat j)]] Hp.empty)) = true := by kernel_rfl
set_option maxRecDepth 1000000 in
theorem runFilterDepth_2_0_2 (m n d : Int) : allN 6 3 (fun j => isTrue (callF (EG m (orcDeep m)) 100000 8 [.sint .i64 n [(-7, 2)], .sint .i64 d [(-9, .ofNat j)]] Hp.empty)) = true := by kernel_rfl
end
end Tz
namespace Tz
open Go Ax
variable [Ax.Sy]
noncomputable section
set_option maxRecDepth 1000000 in
theorem runFilterDepth_3_0_0 (m n d : Int) : allN 0 3 (fun j => isTrue (callF (EG m (orcDeep m)) 100000 8 [.sint .i64 n [(-7, 3)], .sint .i64 d [(-9, .ofNat j)]] Hp.empty)) = true := by kernel_rfl
set_option maxRecDepth 1000000 in
theorem runFilterDepth_3_0_1 (m n d : Int) : allN 3 3 (fun j => isTrue (callF (EG m (orcDeep m)) 100000 8 [.sint .i64 n [(-7, 3)], .sint .i64 d [(-9, .ofNat j)]] Hp.empty)) = true := by kernel_rfl
set_option maxRecDepth 1000000 in
theorem runFilterDepth_3_0_2 (m n d : Int) : allN 6 3 (fun j => isTrue (callF (EG m (orcDeep m)) 100000 8 [.sint .i64 n [(-7, 3)], .sint .i64 d [(-9, .ofNat j)]] Hp.empty)) = true := by kernel_rfl
end
end Tz
