/- Closed runs of FilterLimit; on no condition. -/
import Derived.Test.YtnnfledihhiaiaaGreatDoorZBege
set_option linter.unusedVariables false
set_option linter.unusedSimpArgs false
set_option linter.unusedSectionVars false
namespace Tz
open Go Ax
variable [Ax.Sy]
noncomputable section
set_option maxRecDepth 1000000 in
theorem runFilterLimit_30_0_0 (m n d : Int) : allN 0 50 (fun j => isTrue (callF (EG m (orc15 m)) 100000 9 [.sint .i64 n [(-50, 30)], .sint .i64 d [(-50, .ofNat j)], .bool false] Hp.empty)) = true := by kernel_rfl
set_option maxRecDepth 1000000 in
theorem runFilterLimit_30_1_0 (m n d : Int) : allN 0 50 (fun j => isTrue (callF (EG m (orc15 m)) 100000 9 [.sint .i64 n [(-50, 30)], .sint .i64 d [(-50, .ofNat j)], .bool true] Hp.empty)) = true := by kernel_rfl
set_option maxRecDepth 1000000 in
theorem runFilterLimit_31_0_0 (m n d : Int) : allN 0 50 (fun j => isTrue (callF (EG m (orc15 m)) 100000 9 [.sint .i64 n [(-50, 31)], .sint .i64 d [(-50, .ofNat j)], .bool false] Hp.empty)) = true := by kernel_rfl
set_option maxRecDepth 1000000 in
theorem runFilterLimit_31_1_0 (m n d : Int) : allN 0 50 (fun j => isTrue (callF (EG m (orc15 m)) 100000 9 [.sint .i64 n [(-50, 31)], .sint .i64 d [(-50, .ofNat j)], .bool true] Hp.empty)) = true := by kernel_rfl
set_option maxRecDepth 1000000 in
theorem runFilterLimit_32_0_0 (m n d : Int) : allN 0 50 (fun j => isTrue (callF (EG m (orc15 m)) 100000 9 [.sint .i64 n [(-50, 32)], .sint .i64 d [(-50, .ofNat j)], .bool false] Hp.empty)) = true := by kernel_rfl
set_option maxRecDepth 1000000 in
theorem runFilterLimit_32_1_0 (m n d : Int) : allN 0 50 (fun j => isTrue (callF (EG m (orc15 m)) 100000 9 [.sint .i64 n [(-50, 32)], .sint .i64 d [(-50, .ofNat j)], .bool true] Hp.empty)) = true := by kernel_rfl
set_option maxRecDepth 1000000 in
theorem runFilterLimit_33_0_0 (m n d : Int) : allN 0 50 (fun j => isTrue (callF (EG m (orc15 m)) 100000 9 [.sint .i64 n [(-50, 33)], .sint .i64 d [(-50, .ofNat j)], .bool false] Hp.empty)) = true := by kernel_rfl
set_option maxRecDepth 1000000 in
theorem runFilterLimit_33_1_0 (m n d : Int) : allN 0 50 (fun j => isTrue (callF (EG m (orc15 m)) 100000 9 [.sint .i64 n [(-50, 33)], .sint .i64 d [(-50, .ofNat j)], .bool true] Hp.empty)) = true := by kernel_rfl
set_option maxRecDepth 1000000 in
theorem runFilterLimit_34_0_0 (m n d : Int) : allN 0 50 (fun j => isTrue (callF (EG m (orc15 m)) 100000 9 [.sint .i64 n [(-50, 34)], .sint .i64 d [(-50, .ofNat j)], .bool false] Hp.empty)) = true := by kernel_rfl
set_option maxRecDepth 1000000 in
theorem runFilterLimit_34_1_0 (m n d : Int) : allN 0 50 (fun j => isTrue (callF (EG m (orc15 m)) 100000 9 [.sint .i64 n [(-50, 34)], .sint .i64 d [(-50, .ofNat j)], .bool true] Hp.empty)) = true := by kernel_rfl
end
end Tz
namespace Tz
open Go Ax
variable [Ax.Sy]
noncomputable section
set_option maxRecDepth 1000000 in
theorem runFilterLimit_35_0_0 (m n d : Int) : allN 0 50 (fun j => isTrue (callF (EG m (orc15 m)) 100000 9 [.sint .i64 n [(-50, 35)], .sint .i64 d [(-50, .ofNat j)], .bool false] Hp.empty)) = true := by kernel_rfl
set_option maxRecDepth 1000000 in
theorem runFilterLimit_35_1_0 (m n d : Int) : allN 0 50 (fun j => isTrue (callF (EG m (orc15 m)) 100000 9 [.sint .i64 n [(-50, 35)], .sint .i64 d [(-50, .ofNat j)], .bool true] Hp.empty)) = true := by kernel_rfl
set_option maxRecDepth 1000000 in
theorem runFilterLimit_36_0_0 (m n d : Int) : allN 0 50 (fun j => isTrue (callF (EG m (orc15 m)) 100000 9 [.sint .i64 n [(-50, 36)], .sint .i64 d [(-50, .ofNat j)], .bool false] Hp.empty)) = true := by kernel_rfl
set_option maxRecDepth 1000000 in
theorem runFilterLimit_36_1_0 (m n d : Int) : allN 0 50 (fun j => isTrue (callF (EG m (orc15 m)) 100000 9 [.sint .i64 n [(-50, 36)], .sint .i64 d [(-50, .ofNat j)], .bool true] Hp.empty)) = true := by kernel_rfl
set_option maxRecDepth 1000000 in
theorem runFilterLimit_37_0_0 (m n d : Int) : allN 0 50 (fun j => isTrue (callF (EG m (orc15 m)) 100000 9 [.sint .i64 n [(-50, 37)], .sint .i64 d [(-50, .ofNat j)], .bool false] Hp.empty)) = true := by kernel_rfl
set_option maxRecDepth 1000000 in
theorem runFilterLimit_37_1_0 (m n d : Int) : allN 0 50 (fun j => isTrue (callF (EG m (orc15 m)) 100000 9 [.sint .i64 n [(-50, 37)], .sint .i64 d [(-50, .ofNat j)], .bool true] Hp.empty)) = true := by kernel_rfl
set_option maxRecDepth 1000000 in
theorem runFilterLimit_38_0_0 (m n d : Int) : allN 0 50 (fun j => isTrue (callF (EG m (orc15 m)) 100000 9 [.sint .i64 n [(-50, 38)], .sint .i64 d [(-50, .ofNat j)], .bool false] Hp.empty)) = true := by kernel_rfl
set_option maxRecDepth 1000000 in
theorem runFilterLimit_38_1_0 (m n d : Int) : allN 0 50 (fun j => isTrue (callF (EG m (orc15 m)) 100000 9 [.sint .i64 n [(-50, 38)], .sint .i64 d [(-50, .ofNat j)], .bool true] Hp.empty)) = true := by kernel_rfl
set_option maxRecDepth 1000000 in
theorem runFilterLimit_39_0_0 (m n d : Int) : allN 0 50 (fun j => isTrue (callF (EG m (orc15 m)) 100000 9 [.sint .i64 n [(-50, 39)], .sint .i64 d [(-50, .ofNat j)], .bool false] Hp.empty)) = true := by kernel_rfl
set_option maxRecDepth 1000000 in
theorem runFilterLimit_39_1_0 (m n d : Int) : allN 0 50 (fun j => isTrue (callF (EG m (orc15 m)) 100000 9 [.sint .i64 n [(-50, 39)], .sint .i64 d [(-50, .ofNat j)], .bool true] Hp.empty)) = true := by kernel_rfl
end
end Tz
