/- Closed runs of FilterLimit; on no condition. -/
import Derived.Test.YtnnfledihhiaiaaGreatDoorZBege
set_option linter.unusedVariables false
set_option linter.unusedSimpArgs false
set_option linter.unusedSectionVars false
namespace Tz
open Go Ax
variable [Ax.Sy]
noncomputable section
set_option maxRecDepth 1000000 in
theorem runFilterLimit_20_0_0 (m n d : Int) : allN 0 50 (fun j => isTrue (callF (EG m (orc15 m)) 100000 9 [.sint .i64 n [(-50, 20)], .sint .i64 d [(-50, .ofNat j)], .bool false] Hp.empty)) = true := by kernel_rfl
set_option maxRecDepth 1000000 in
theorem runFilterLimit_20_1_0 (m n d : Int) : allN 0 50 (fun j => isTrue (callF (EG m (orc15 m)) 100000 9 [.sint .i64 n [(-50, 20)], .sint .i64 d [(-50, .ofNat j)], .bool true] Hp.empty)) = true := by kernel_rfl
set_option maxRecDepth 1000000 in
theorem runFilterLimit_21_0_0 (m n d : Int) : allN 0 50 (fun j => isTrue (callF (EG m (orc15 m)) 100000 9 [.sint .i64 n [(-50, 21)], .sint .i64 d [(-50, .ofNat j)], .bool false] Hp.empty)) = true := by kernel_rfl
set_option maxRecDepth 1000000 in
theorem runFilterLimit_21_1_0 (m n d : Int) : allN 0 50 (fun j => isTrue (callF (EG m (orc15 m)) 100000 9 [.sint .i64 n [(-50, 21)], .sint .i64 d [(-50, .ofNat j)], .bool true] Hp.empty)) = true := by kernel_rfl
set_option maxRecDepth 1000000 in
theorem runFilterLimit_22_0_0 (m n d : Int) : allN 0 50 (fun j => isTrue (callF (EG m (orc15 m)) 100000 9 [.sint .i64 n [(-50, 22)], .sint .i64 d [(-50, .ofNat j)], .bool false] Hp.empty)) = true := by kernel_rfl
set_option maxRecDepth 1000000 in
theorem runFilterLimit_22_1_0 (m n d : Int) : allN 0 50 (fun j => isTrue (callF (EG m (orc15 m)) 100000 9 [.sint .i64 n [(-50, 22)], .sint .i64 d [(-50, .ofNat j)], .bool true] Hp.empty)) = true := by kernel_rfl
set_option maxRecDepth 1000000 in
theorem runFilterLimit_23_0_0 (m n d : Int) : allN 0 50 (fun j => isTrue (callF (EG m (orc15 m)) 100000 9 [.sint .i64 n [(-50, 23)], .sint .i64 d [(-50, .ofNat j)], .bool false] Hp.empty)) = true := by kernel_rfl
set_option maxRecDepth 1000000 in
theorem runFilterLimit_23_1_0 (m n d : Int) : allN 0 50 (fun j => isTrue (callF (EG m (orc15 m)) 100000 9 [.sint .i64 n [(-50, 23)], .sint .i64 d [(-50, .ofNat j)], .bool true] Hp.empty)) = true := by kernel_rfl
set_option maxRecDepth 1000000 in
theorem runFilterLimit_24_0_0 (m n d : Int) : allN 0 50 (fun j => isTrue (callF (EG m (orc15 m)) 100000 9 [.sint .i64 n [(-50, 24)], .sint .i64 d [(-50, .ofNat j)], .bool false] Hp.empty)) = true := by kernel_rfl
set_option maxRecDepth 1000000 in
theorem runFilterLimit_24_1_0 (m n d : Int) : allN 0 50 (fun j => isTrue (callF (EG m (orc15 m)) 100000 9 [.sint .i64 n [(-50, 24)], .sint .i64 d [(-50, .ofNat j)], .bool true] Hp.empty)) = true := by kernel_rfl
end
end Tz
namespace Tz
open Go Ax
variable [Ax.Sy]
noncomputable section
set_option maxRecDepth 1000000 in
theorem runFilterLimit_25_0_0 (m n d : Int) : allN 0 50 (fun j => isTrue (callF (EG m (orc15 m)) 100000 9 [.sint .i64 n [(-50, 25)], .sint .i64 d [(-50, .ofNat j)], .bool false] Hp.empty)) = true := by kernel_rfl
set_option maxRecDepth 1000000 in
theorem runFilterLimit_25_1_0 (m n d : Int) : allN 0 50 (fun j => isTrue (callF (EG m (orc15 m)) 100000 9 [.sint .i64 n [(-50, 25)], .sint .i64 d [(-50, .ofNat j)], .bool true] Hp.empty)) = true := by kernel_rfl
set_option maxRecDepth 1000000 in
theorem runFilterLimit_26_0_0 (m n d : Int) : allN 0 50 (fun j => isTrue (callF (EG m (orc15 m)) 100000 9 [.sint .i64 n [(-50, 26)], .sint .i64 d [(-50, .ofNat j)], .bool false] Hp.empty)) = true := by kernel_rfl
set_option maxRecDepth 1000000 in
theorem runFilterLimit_26_1_0 (m n d : Int) : allN 0 50 (fun j => isTrue (callF (EG m (orc15 m)) 100000 9 [.sint .i64 n [(-50, 26)], .sint .i64 d [(-50, .ofNat j)], .bool true] Hp.empty)) = true := by kernel_rfl
set_option maxRecDepth 1000000 in
theorem runFilterLimit_27_0_0 (m n d : Int) : allN 0 50 (fun j => isTrue (callF (EG m (orc15 m)) 100000 9 [.sint .i64 n [(-50, 27)], .sint .i64 d [(-50, .ofNat j)], .bool false] Hp.empty)) = true := by kernel_rfl
set_option maxRecDepth 1000000 in
theorem runFilterLimit_27_1_0 (m n d : Int) : allN 0 50 (fun j => isTrue (callF (EG m (orc15 m)) 100000 9 [.sint .i64 n [(-50, 27)], .sint .i64 d [(-50, .ofNat j)], .bool true] Hp.empty)) = true := by kernel_rfl
set_option maxRecDepth 1000000 in
theorem runFilterLimit_28_0_0 (m n d : Int) : allN 0 50 (fun j => isTrue (callF (EG m (orc15 m)) 100000 9 [.sint .i64 n [(-50, 28)], .sint .i64 d [(-50, .ofNat j)], .bool false] Hp.empty)) = true := by kernel_rfl
set_option maxRecDepth 1000000 in
theorem runFilterLimit_28_1_0 (m n d : Int) : allN 0 50 (fun j => isTrue (callF (EG m (orc15 m)) 100000 9 [.sint .i64 n [(-50, 28)], .sint .i64 d [(-50, .ofNat j)], .bool true] Hp.empty)) = true := by kernel_rfl
set_option maxRecDepth 1000000 in
theorem runFilterLimit_29_0_0 (m n d : Int) : allN 0 50 (fun j => isTrue (callF (EG m (orc15 m)) 100000 9 [.sint .i64 n [(-50, 29)], .sint .i64 d [(-50, .ofNat j)], .bool false] Hp.empty)) = true := by kernel_rfl
set_option maxRecDepth 1000000 in
theorem runFilterLimit_29_1_0 (m n d : Int) : allN 0 50 (fun j => isTrue (callF (EG m (orc15 m)) 100000 9 [.sint .i64 n [(-50, 29)], .sint .i64 d [(-50, .ofNat j)], .bool true] Hp.empty)) = true := by kernel_rfl
end
end Tz
