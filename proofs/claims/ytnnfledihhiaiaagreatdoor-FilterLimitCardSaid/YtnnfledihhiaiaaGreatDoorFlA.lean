/- Closed runs of FilterLimit; on no condition. -/
import Derived.Test.YtnnfledihhiaiaaGreatDoorZBege
set_option linter.unusedVariables false
set_option linter.unusedSimpArgs false
set_option linter.unusedSectionVars false
namespace Tz
open Go Ax
variable [Ax.Sy]
noncomputable section
set_option maxRecDepth 1000000 in
theorem runFilterLimit_0_0_0 (m n d : Int) : allN 0 50 (fun j => isTrue (callF (EG m (orc15 m)) 100000 9 [.sint .i64 n [(-50, 0)], .sint .i64 d [(-50, .ofNat j)], .bool false] Hp.empty)) = true := by kernel_rfl
set_option maxRecDepth 1000000 in
theorem runFilterLimit_0_1_0 (m n d : Int) : allN 0 50 (fun j => isTrue (callF (EG m (orc15 m)) 100000 9 [.sint .i64 n [(-50, 0)], .sint .i64 d [(-50, .ofNat j)], .bool true] Hp.empty)) = true := by kernel_rfl
set_option maxRecDepth 1000000 in
theorem runFilterLimit_1_0_0 (m n d : Int) : allN 0 50 (fun j => isTrue (callF (EG m (orc15 m)) 100000 9 [.sint .i64 n [(-50, 1)], .sint .i64 d [(-50, .ofNat j)], .bool false] Hp.empty)) = true := by kernel_rfl
set_option maxRecDepth 1000000 in
theorem runFilterLimit_1_1_0 (m n d : Int) : allN 0 50 (fun j => isTrue (callF (EG m (orc15 m)) 100000 9 [.sint .i64 n [(-50, 1)], .sint .i64 d [(-50, .ofNat j)], .bool true] Hp.empty)) = true := by kernel_rfl
set_option maxRecDepth 1000000 in
theorem runFilterLimit_2_0_0 (m n d : Int) : allN 0 50 (fun j => isTrue (callF (EG m (orc15 m)) 100000 9 [.sint .i64 n [(-50, 2)], .sint .i64 d [(-50, .ofNat j)], .bool false] Hp.empty)) = true := by kernel_rfl
set_option maxRecDepth 1000000 in
theorem runFilterLimit_2_1_0 (m n d : Int) : allN 0 50 (fun j => isTrue (callF (EG m (orc15 m)) 100000 9 [.sint .i64 n [(-50, 2)], .sint .i64 d [(-50, .ofNat j)], .bool true] Hp.empty)) = true := by kernel_rfl
set_option maxRecDepth 1000000 in
theorem runFilterLimit_3_0_0 (m n d : Int) : allN 0 50 (fun j => isTrue (callF (EG m (orc15 m)) 100000 9 [.sint .i64 n [(-50, 3)], .sint .i64 d [(-50, .ofNat j)], .bool false] Hp.empty)) = true := by kernel_rfl
set_option maxRecDepth 1000000 in
theorem runFilterLimit_3_1_0 (m n d : Int) : allN 0 50 (fun j => isTrue (callF (EG m (orc15 m)) 100000 9 [.sint .i64 n [(-50, 3)], .sint .i64 d [(-50, .ofNat j)], .bool true] Hp.empty)) = true := by kernel_rfl
set_option maxRecDepth 1000000 in
theorem runFilterLimit_4_0_0 (m n d : Int) : allN 0 50 (fun j => isTrue (callF (EG m (orc15 m)) 100000 9 [.sint .i64 n [(-50, 4)], .sint .i64 d [(-50, .ofNat j)], .bool false] Hp.empty)) = true := by kernel_rfl
set_option maxRecDepth 1000000 in
theorem runFilterLimit_4_1_0 (m n d : Int) : allN 0 50 (fun j => isTrue (callF (EG m (orc15 m)) 100000 9 [.sint .i64 n [(-50, 4)], .sint .i64 d [(-50, .ofNat j)], .bool true] Hp.empty)) = true := by kernel_rfl
end
end Tz
namespace Tz
open Go Ax
variable [Ax.Sy]
noncomputable section
set_option maxRecDepth 1000000 in
theorem runFilterLimit_5_0_0 (m n d : Int) : allN 0 50 (fun j => isTrue (callF (EG m (orc15 m)) 100000 9 [.sint .i64 n [(-50, 5)], .sint .i64 d [(-50, .ofNat j)], .bool false] Hp.empty)) = true := by kernel_rfl
set_option maxRecDepth 1000000 in
theorem runFilterLimit_5_1_0 (m n d : Int) : allN 0 50 (fun j => isTrue (callF (EG m (orc15 m)) 100000 9 [.sint .i64 n [(-50, 5)], .sint .i64 d [(-50, .ofNat j)], .bool true] Hp.empty)) = true := by kernel_rfl
set_option maxRecDepth 1000000 in
theorem runFilterLimit_6_0_0 (m n d : Int) : allN 0 50 (fun j => isTrue (callF (EG m (orc15 m)) 100000 9 [.sint .i64 n [(-50, 6)], .sint .i64 d [(-50, .ofNat j)], .bool false] Hp.empty)) = true := by kernel_rfl
set_option maxRecDepth 1000000 in
theorem runFilterLimit_6_1_0 (m n d : Int) : allN 0 50 (fun j => isTrue (callF (EG m (orc15 m)) 100000 9 [.sint .i64 n [(-50, 6)], .sint .i64 d [(-50, .ofNat j)], .bool true] Hp.empty)) = true := by kernel_rfl
set_option maxRecDepth 1000000 in
theorem runFilterLimit_7_0_0 (m n d : Int) : allN 0 50 (fun j => isTrue (callF (EG m (orc15 m)) 100000 9 [.sint .i64 n [(-50, 7)], .sint .i64 d [(-50, .ofNat j)], .bool false] Hp.empty)) = true := by kernel_rfl
set_option maxRecDepth 1000000 in
theorem runFilterLimit_7_1_0 (m n d : Int) : allN 0 50 (fun j => isTrue (callF (EG m (orc15 m)) 100000 9 [.sint .i64 n [(-50, 7)], .sint .i64 d [(-50, .ofNat j)], .bool true] Hp.empty)) = true := by kernel_rfl
set_option maxRecDepth 1000000 in
theorem runFilterLimit_8_0_0 (m n d : Int) : allN 0 50 (fun j => isTrue (callF (EG m (orc15 m)) 100000 9 [.sint .i64 n [(-50, 8)], .sint .i64 d [(-50, .ofNat j)], .bool false] Hp.empty)) = true := by kernel_rfl
set_option maxRecDepth 1000000 in
theorem runFilterLimit_8_1_0 (m n d : Int) : allN 0 50 (fun j => isTrue (callF (EG m (orc15 m)) 100000 9 [.sint .i64 n [(-50, 8)], .sint .i64 d [(-50, .ofNat j)], .bool true] Hp.empty)) = true := by kernel_rfl
set_option maxRecDepth 1000000 in
theorem runFilterLimit_9_0_0 (m n d : Int) : allN 0 50 (fun j => isTrue (callF (EG m (orc15 m)) 100000 9 [.sint .i64 n [(-50, 9)], .sint .i64 d [(-50, .ofNat j)], .bool false] Hp.empty)) = true := by kernel_rfl
set_option maxRecDepth 1000000 in
theorem runFilterLimit_9_1_0 (m n d : Int) : allN 0 50 (fun j => isTrue (callF (EG m (orc15 m)) 100000 9 [.sint .i64 n [(-50, 9)], .sint .i64 d [(-50, .ofNat j)], .bool true] Hp.empty)) = true := by kernel_rfl
end
end Tz
