/- ServeDepth, run at the shorter chains; on no condition. -/
import Derived.Test.YtdimdhloklnkmaaGreatDoorSdPc
set_option linter.unusedVariables false
set_option linter.unusedSimpArgs false
set_option linter.unusedSectionVars false
namespace Tz
open Go Ax
variable [Ax.Sy]
noncomputable section
set_option maxRecDepth 1000000 in
theorem runServeDepth_0_0_0 (m n d : Int) : allN 0 3 (fun j => isTrue (callF (EG m (orcPush m)) 100000 5 [.sint .i64 n [(-9, 0)], .sint .i64 d [(-11, .ofNat j)], .bool false] Hp.empty)) = true := by kernel_rfl
set_option maxRecDepth 1000000 in
theorem runServeDepth_0_0_1 (m n d : Int) : allN 3 3 (fun j => isTrue (callF (EG m (orcPush m)) 100000 5 [.sint .i64 n [(-9, 0)], .sint .i64 d [(-11, .ofNat j)], .bool false] Hp.empty)) = true := by kernel_rfl
set_option maxRecDepth 1000000 in
theorem runServeDepth_0_0_2 (m n d : Int) : allN 6 3 (fun j => isTrue (callF (EG m (orcPush m)) 100000 5 [.sint .i64 n [(-9, 0)], .sint .i64 d [(-11, .ofNat j)], .bool false] Hp.empty)) = true := by kernel_rfl
set_option maxRecDepth 1000000 in
theorem runServeDepth_0_0_3 (m n d : Int) : allN 9 2 (fun j => isTrue (callF (EG m (orcPush m)) 100000 5 [.sint .i64 n [(-9, 0)], .sint .i64 d [(-11, .ofNat j)], .bool false] Hp.empty)) = true := by kernel_rfl
set_option maxRecDepth 1000000 in
theorem runServeDepth_0_1_0 (m n d : Int) : allN 0 3 (fun j => isTrue (callF (EG m (orcPush m)) 100000 5 [.sint .i64 n [(-9, 0)], .sint .i64 d [(-11, .ofNat j)], .bool true] Hp.empty)) = true := by kernel_rfl
set_option maxRecDepth 1000000 in
theorem runServeDepth_0_1_1 (m n d : Int) : allN 3 3 (fun j => isTrue (callF (EG m (orcPush m)) 100000 5 [.sint .i64 n [(-9, 0)], .sint .i64 d [(-11, .ofNat j)], .bool true] Hp.empty)) = true := by kernel_rfl
set_option maxRecDepth 1000000 in
theorem runServeDepth_0_1_2 (m n d : Int) : allN 6 3 (fun j => isTrue (callF (EG m (orcPush m)) 100000 5 [.sint .i64 n [(-9, 0)], .sint .i64 d [(-11, .ofNat j)], .bool true] Hp.empty)) = true := by kernel_rfl
set_option maxRecDepth 1000000 in
theorem runServeDepth_0_1_3 (m n d : Int) : allN 9 2 (fun j => isTrue (callF (EG m (orcPush m)) 100000 5 [.sint .i64 n [(-9, 0)], .sint .i64 d [(-11, .ofNat j)], .bool true] Hp.empty)) = true := by kernel_rfl
end
end Tz
namespace Tz
open Go Ax
variable [Ax.Sy]
noncomputable section
set_option maxRecDepth 1000000 in
theorem runServeDepth_1_0_0 (m n d : Int) : allN 0 3 (fun j => isTrue (callF (EG m (orcPush m)) 100000 5 [.sint .i64 n [(-9, 1)], .sint .i64 d [(-11, .ofNat j)], .bool false] Hp.empty)) = true := by kernel_rfl
set_option maxRecDepth 1000000 in
theorem runServeDepth_1_0_1 (m n d : Int) : allN 3 3 (fun j => isTrue (callF (EG m (orcPush m)) 100000 5 [.sint .i64 n [(-9, 1)], .sint .i64 d [(-11, .ofNat j)], .bool false] Hp.empty)) = true := by kernel_rfl
set_option maxRecDepth 1000000 in
theorem runServeDepth_1_0_2 (m n d : Int) : allN 6 3 (fun j => isTrue (callF (EG m (orcPush m)) 100000 5 [.sint .i64 n [(-9, 1)], .sint .i64 d [(-11, .ofNat j)], .bool false] Hp.empty)) = true := by kernel_rfl
set_option maxRecDepth 1000000 in
theorem runServeDepth_1_0_3 (m n d : Int) : allN 9 2 (fun j => isTrue (callF (EG m (orcPush m)) 100000 5 [.sint .i64 n [(-9, 1)], .sint .i64 d [(-11, .ofNat j)], .bool false] Hp.empty)) = true := by kernel_rfl
set_option maxRecDepth 1000000 in
theorem runServeDepth_1_1_0 (m n d : Int) : allN 0 3 (fun j => isTrue (callF (EG m (orcPush m)) 100000 5 [.sint .i64 n [(-9, 1)], .sint .i64 d [(-11, .ofNat j)], .bool true] Hp.empty)) = true := by kernel_rfl
set_option maxRecDepth 1000000 in
theorem runServeDepth_1_1_1 (m n d : Int) : allN 3 3 (fun j => isTrue (callF (EG m (orcPush m)) 100000 5 [.sint .i64 n [(-9, 1)], .sint .i64 d [(-11, .ofNat j)], .bool true] Hp.empty)) = true := by kernel_rfl
set_option maxRecDepth 1000000 in
theorem runServeDepth_1_1_2 (m n d : Int) : allN 6 3 (fun j => isTrue (callF (EG m (orcPush m)) 100000 5 [.sint .i64 n [(-9, 1)], .sint .i64 d [(-11, .ofNat j)], .bool true] Hp.empty)) = true := by kernel_rfl
set_option maxRecDepth 1000000 in
theorem runServeDepth_1_1_3 (m n d : Int) : allN 9 2 (fun j => isTrue (callF (EG m (orcPush m)) 100000 5 [.sint .i64 n [(-9, 1)], .sint .i64 d [(-11, .ofNat j)], .bool true] Hp.empty)) = true := by kernel_rfl
end
end Tz
namespace Tz
open Go Ax
variable [Ax.Sy]
noncomputable section
set_option maxRecDepth 1000000 in
theorem runServeDepth_2_0_0 (m n d : Int) : allN 0 3 (fun j => isTrue (callF (EG m (orcPush m)) 100000 5 [.sint .i64 n [(-9, 2)], .sint .i64 d [(-11, .ofNat j)], .bool false] Hp.empty)) = true := by kernel_rfl
set_option maxRecDepth 1000000 in
theorem runServeDepth_2_0_1 (m n d : Int) : allN 3 3 (fun j => isTrue (callF (EG m (orcPush m)) 100000 5 [.sint .i64 n [(-9, 2)], .sint .i64 d [(-11, .ofNat j)], .bool false] Hp.empty)) = true := by kernel_rfl
set_option maxRecDepth 1000000 in
theorem runServeDepth_2_0_2 (m n d : Int) : allN 6 3 (fun j => isTrue (callF (EG m (orcPush m)) 100000 5 [.sint .i64 n [(-9, 2)], .sint .i64 d [(-11, .ofNat j)], .bool false] Hp.empty)) = true := by kernel_rfl
set_option maxRecDepth 1000000 in
theorem runServeDepth_2_0_3 (m n d : Int) : allN 9 2 (fun j => isTrue (callF (EG m (orcPush m)) 100000 5 [.sint .i64 n [(-9, 2)], .sint .i64 d [(-11, .ofNat j)], .bool false] Hp.empty)) = true := by kernel_rfl
set_option maxRecDepth 1000000 in
theorem runServeDepth_2_1_0 (m n d : Int) : allN 0 3 (fun j => isTrue (callF (EG m (orcPush m)) 100000 5 [.sint .i64 n [(-9, 2)], .sint .i64 d [(-11, .ofNat j)], .bool true] Hp.empty)) = true := by kernel_rfl
set_option maxRecDepth 1000000 in
theorem runServeDepth_2_1_1 (m n d : Int) : allN 3 3 (fun j => isTrue (callF (EG m (orcPush m)) 100000 5 [.sint .i64 n [(-9, 2)], .sint .i64 d [(-11, .ofNat j)], .bool true] Hp.empty)) = true := by kernel_rfl
set_option maxRecDepth 1000000 in
theorem runServeDepth_2_1_2 (m n d : Int) : allN 6 3 (fun j => isTrue (callF (EG m (orcPush m)) 100000 5 [.sint .i64 n [(-9, 2)], .sint .i64 d [(-11, .ofNat j)], .bool true] Hp.empty)) = true := by kernel_rfl
set_option maxRecDepth 1000000 in
theorem runServeDepth_2_1_3 (m n d : Int) : allN 9 2 (fun j => isTrue (callF (EG m (orcPush m)) 100000 5 [.sint .i64 n [(-9, 2)], .sint .i64 d [(-11, .ofNat j)], .bool true] Hp.empty)) = true := by kernel_rfl
end
end Tz
namespace Tz
open Go Ax
variable [Ax.Sy]
noncomputable section
set_option maxRecDepth 1000000 in
theorem runServeDepth_3_0_0 (m n d : Int) : allN 0 3 (fun j => isTrue (callF (EG m (orcPush m)) 100000 5 [.sint .i64 n [(-9, 3)], .sint .i64 d [(-11, .ofNat j)], .bool false] Hp.empty)) = true := by kernel_rfl
set_option maxRecDepth 1000000 in
theorem runServeDepth_3_0_1 (m n d : Int) : allN 3 3 (fun j => isTrue (callF (EG m (orcPush m)) 100000 5 [.sint .i64 n [(-9, 3)], .sint .i64 d [(-11, .ofNat j)], .bool false] Hp.empty)) = true := by kernel_rfl
set_option maxRecDepth 1000000 in
theorem runServeDepth_3_0_2 (m n d : Int) : allN 6 3 (fun j => isTrue (callF (EG m (orcPush m)) 100000 5 [.sint .i64 n [(-9, 3)], .sint .i64 d [(-11, .ofNat j)], .bool false] Hp.empty)) = true := by kernel_rfl
set_option maxRecDepth 1000000 in
theorem runServeDepth_3_0_3 (m n d : Int) : allN 9 2 (fun j => isTrue (callF (EG m (orcPush m)) 100000 5 [.sint .i64 n [(-9, 3)], .sint .i64 d [(-11, .ofNat j)], .bool false] Hp.empty)) = true := by kernel_rfl
set_option maxRecDepth 1000000 in
theorem runServeDepth_3_1_0 (m n d : Int) : allN 0 3 (fun j => isTrue (callF (EG m (orcPush m)) 100000 5 [.sint .i64 n [(-9, 3)], .sint .i64 d [(-11, .ofNat j)], .bool true] Hp.empty)) = true := by kernel_rfl
set_option maxRecDepth 1000000 in
theorem runServeDepth_3_1_1 (m n d : Int) : allN 3 3 (fun j => isTrue (callF (EG m (orcPush m)) 100000 5 [.sint .i64 n [(-9, 3)], .sint .i64 d [(-11, .ofNat j)], .bool true] Hp.empty)) = true := by kernel_rfl
set_option maxRecDepth 1000000 in
theorem runServeDepth_3_1_2 (m n d : Int) : allN 6 3 (fun j => isTrue (callF (EG m (orcPush m)) 100000 5 [.sint .i64 n [(-9, 3)], .sint .i64 d [(-11, .ofNat j)], .bool true] Hp.empty)) = true := by kernel_rfl
set_option maxRecDepth 1000000 in
theorem runServeDepth_3_1_3 (m n d : Int) : allN 9 2 (fun j => isTrue (callF (EG m (orcPush m)) 100000 5 [.sint .i64 n [(-9, 3)], .sint .i64 d [(-11, .ofNat j)], .bool true] Hp.empty)) = true := by kernel_rfl
end
end Tz
