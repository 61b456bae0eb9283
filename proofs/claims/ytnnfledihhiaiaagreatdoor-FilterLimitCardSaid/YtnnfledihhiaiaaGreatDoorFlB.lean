/- Closed runs of FilterLimit; on no condition. -/
import Derived.Test.YtnnfledihhiaiaaGreatDoorZBege
set_option linter.unusedVariables false
set_option linter.unusedSimpArgs false
set_option linter.unusedSectionVars false
namespace Tz
open Go Ax
variable [Ax.Sy]
noncomputable section
set_option maxRecDepth 1000000 in
theorem runFilterLimit_10_0_0 (m n d : Int) : allN 0 50 (fun j => isTrue (callF (EG m (orc15 m)) 100000 9 [.sint .i64 n [(-50, 10)], .sint .i64 d [(-50, .ofNat j)], .bool false] Hp.empty)) = true := by kernel_rfl
set_option maxRecDepth 1000000 in
theorem runFilterLimit_10_1_0 (m n d : Int) : allN 0 50 (fun j => isTrue (callF (EG m (orc15 m)) 100000 9 [.sint .i64 n [(-50, 10)], .sint .i64 d [(-50, .ofNat j)], .bool true] Hp.empty)) = true := by kernel_rfl
set_option maxRecDepth 1000000 in
theorem runFilterLimit_11_0_0 (m n d : Int) : allN 0 50 (fun j => isTrue (callF (EG m (orc15 m)) 100000 9 [.sint .i64 n [(-50, 11)], .sint .i64 d [(-50, .ofNat j)], .bool false] Hp.empty)) = true := by kernel_rfl
set_option maxRecDepth 1000000 in
theorem runFilterLimit_11_1_0 (m n d : Int) : allN 0 50 (fun j => isTrue (callF (EG m (orc15 m)) 100000 9 [.sint .i64 n [(-50, 11)], .sint .i64 d [(-50, .ofNat j)], .bool true] Hp.empty)) = true := by kernel_rfl
set_option maxRecDepth 1000000 in
theorem runFilterLimit_12_0_0 (m n d : Int) : allN 0 50 (fun j => isTrue (callF (EG m (orc15 m)) 100000 9 [.sint .i64 n [(-50, 12)], .sint .i64 d [(-50, .ofNat j)], .bool false] Hp.empty)) = true := by kernel_rfl
set_option maxRecDepth 1000000 in
theorem runFilterLimit_12_1_0 (m n d : Int) : allN 0 50 (fun j => isTrue (callF (EG m (orc15 m)) 100000 9 [.sint .i64 n [(-50, 12)], .sint .i64 d [(-50, .ofNat j)], .bool true] Hp.empty)) = true := by kernel_rfl
set_option maxRecDepth 1000000 in
theorem runFilterLimit_13_0_0 (m n d : Int) : allN 0 50 (fun j => isTrue (callF (EG m (orc15 m)) 100000 9 [.sint .i64 n [(-50, 13)], .sint .i64 d [(-50, .ofNat j)], .bool false] Hp.empty)) = true := by kernel_rfl
set_option maxRecDepth 1000000 in
theorem runFilterLimit_13_1_0 (m n d : Int) : allN 0 50 (fun j => isTrue (callF (EG m (orc15 m)) 100000 9 [.sint .i64 n [(-50, 13)], .sint .i64 d [(-50, .ofNat j)], .bool true] Hp.empty)) = true := by kernel_rfl
set_option maxRecDepth 1000000 in
theorem runFilterLimit_14_0_0 (m n d : Int) : allN 0 50 (fun j => isTrue (callF (EG m (orc15 m)) 100000 9 [.sint .i64 n [(-50, 14)], .sint .i64 d [(-50, .ofNat j)], .bool false] Hp.empty)) = true := by kernel_rfl
set_option maxRecDepth 1000000 in
theorem runFilterLimit_14_1_0 (m n d : Int) : allN 0 50 (fun j => isTrue (callF (EG m (orc15 m)) 100000 9 [.sint .i64 n [(-50, 14)], .sint .i64 d [(-50, .ofNat j)], .bool true] Hp.empty)) = true := by kernel_rfl
end
end Tz
namespace Tz
open Go Ax
variable [Ax.Sy]
noncomputable section
set_option maxRecDepth 1000000 in
theorem runFilterLimit_15_0_0 (m n d : Int) : allN 0 50 (fun j => isTrue (callF (EG m (orc15 m)) 100000 9 [.sint .i64 n [(-50, 15)], .sint .i64 d [(-50, .ofNat j)], .bool false] Hp.empty)) = true := by kernel_rfl
set_option maxRecDepth 1000000 in
theorem runFilterLimit_15_1_0 (m n d : Int) : allN 0 50 (fun j => isTrue (callF (EG m (orc15 m)) 100000 9 [.sint .i64 n [(-50, 15)], .sint .i64 d [(-50, .ofNat j)], .bool true] Hp.empty)) = true := by kernel_rfl
set_option maxRecDepth 1000000 in
theorem runFilterLimit_16_0_0 (m n d : Int) : allN 0 50 (fun j => isTrue (callF (EG m (orc15 m)) 100000 9 [.sint .i64 n [(-50, 16)], .sint .i64 d [(-50, .ofNat j)], .bool false] Hp.empty)) = true := by kernel_rfl
set_option maxRecDepth 1000000 in
theorem runFilterLimit_16_1_0 (m n d : Int) : allN 0 50 (fun j => isTrue (callF (EG m (orc15 m)) 100000 9 [.sint .i64 n [(-50, 16)], .sint .i64 d [(-50, .ofNat j)], .bool true] Hp.empty)) = true := by kernel_rfl
set_option maxRecDepth 1000000 in
theorem runFilterLimit_17_0_0 (m n d : Int) : allN 0 50 (fun j => isTrue (callF (EG m (orc15 m)) 100000 9 [.sint .i64 n [(-50, 17)], .sint .i64 d [(-50, .ofNat j)], .bool false] Hp.empty)) = true := by kernel_rfl
set_option maxRecDepth 1000000 in
theorem runFilterLimit_17_1_0 (m n d : Int) : allN 0 50 (fun j => isTrue (callF (EG m (orc15 m)) 100000 9 [.sint .i64 n [(-50, 17)], .sint .i64 d [(-50, .ofNat j)], .bool true] Hp.empty)) = true := by kernel_rfl
set_option maxRecDepth 1000000 in
theorem runFilterLimit_18_0_0 (m n d : Int) : allN 0 50 (fun j => isTrue (callF (EG m (orc15 m)) 100000 9 [.sint .i64 n [(-50, 18)], .sint .i64 d [(-50, .ofNat j)], .bool false] Hp.empty)) = true := by kernel_rfl
set_option maxRecDepth 1000000 in
theorem runFilterLimit_18_1_0 (m n d : Int) : allN 0 50 (fun j => isTrue (callF (EG m (orc15 m)) 100000 9 [.sint .i64 n [(-50, 18)], .sint .i64 d [(-50, .ofNat j)], .bool true] Hp.empty)) = true := by kernel_rfl
set_option maxRecDepth 1000000 in
theorem runFilterLimit_19_0_0 (m n d : Int) : allN 0 50 (fun j => isTrue (callF (EG m (orc15 m)) 100000 9 [.sint .i64 n [(-50, 19)], .sint .i64 d [(-50, .ofNat j)], .bool false] Hp.empty)) = true := by kernel_rfl
set_option maxRecDepth 1000000 in
theorem runFilterLimit_19_1_0 (m n d : Int) : allN 0 50 (fun j => isTrue (callF (EG m (orc15 m)) 100000 9 [.sint .i64 n [(-50, 19)], .sint .i64 d [(-50, .ofNat j)], .bool true] Hp.empty)) = true := by kernel_rfl
end
end Tz
