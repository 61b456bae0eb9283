/- Closed runs of FilterLimit; on no condition. -/
import Derived.Test.YtnnfledihhiaiaaGreatDoorZBege
set_option linter.unusedVariables false
set_option linter.unusedSimpArgs false
set_option linter.unusedSectionVars false
namespace Tz
open Go Ax
variable [Ax.Sy]
noncomputable section
set_option maxRecDepth 1000000 in
theorem runFilterLimit_40_0_0 (m n d : Int) : allN 0 50 (fun j => isTrue (callF (EG m (orc15 m)) 100000 9 [.sint .i64 n [(-50, 40)], .sint .i64 d [(-50, .ofNat j)], .bool false] Hp.empty)) = true := by kernel_rfl
set_option maxRecDepth 1000000 in
theorem runFilterLimit_40_1_0 (m n d : Int) : allN 0 50 (fun j => isTrue (callF (EG m (orc15 m)) 100000 9 [.sint .i64 n [(-50, 40)], .sint .i64 d [(-50, .ofNat j)], .bool true] Hp.empty)) = true := by kernel_rfl
set_option maxRecDepth 1000000 in
theorem runFilterLimit_41_0_0 (m n d : Int) : allN 0 50 (fun j => isTrue (callF (EG m (orc15 m)) 100000 9 [.sint .i64 n [(-50, 41)], .sint .i64 d [(-50, .ofNat j)], .bool false] Hp.empty)) = true := by kernel_rfl
set_option maxRecDepth 1000000 in
theorem runFilterLimit_41_1_0 (m n d : Int) : allN 0 50 (fun j => isTrue (callF (EG m (orc15 m)) 100000 9 [.sint .i64 n [(-50, 41)], .sint .i64 d [(-50, .ofNat j)], .bool true] Hp.empty)) = true := by kernel_rfl
set_option maxRecDepth 1000000 in
theorem runFilterLimit_42_0_0 (m n d : Int) : allN 0 50 (fun j => isTrue (callF (EG m (orc15 m)) 100000 9 [.sint .i64 n [(-50, 42)], .sint .i64 d [(-50, .ofNat j)], .bool false] Hp.empty)) = true := by kernel_rfl
set_option maxRecDepth 1000000 in
theorem runFilterLimit_42_1_0 (m n d : Int) : allN 0 50 (fun j => isTrue (callF (EG m (orc15 m)) 100000 9 [.sint .i64 n [(-50, 42)], .sint .i64 d [(-50, .ofNat j)], .bool true] Hp.empty)) = true := by kernel_rfl
set_option maxRecDepth 1000000 in
theorem runFilterLimit_43_0_0 (m n d : Int) : allN 0 50 (fun j => isTrue (callF (EG m (orc15 m)) 100000 9 [.sint .i64 n [(-50, 43)], .sint .i64 d [(-50, .ofNat j)], .bool false] Hp.empty)) = true := by kernel_rfl
set_option maxRecDepth 1000000 in
theorem runFilterLimit_43_1_0 (m n d : Int) : allN 0 50 (fun j => isTrue (callF (EG m (orc15 m)) 100000 9 [.sint .i64 n [(-50, 43)], .sint .i64 d [(-50, .ofNat j)], .bool true] Hp.empty)) = true := by kernel_rfl
set_option maxRecDepth 1000000 in
theorem runFilterLimit_44_0_0 (m n d : Int) : allN 0 50 (fun j => isTrue (callF (EG m (orc15 m)) 100000 9 [.sint .i64 n [(-50, 44)], .sint .i64 d [(-50, .ofNat j)], .bool false] Hp.empty)) = true := by kernel_rfl
set_option maxRecDepth 1000000 in
theorem runFilterLimit_44_1_0 (m n d : Int) : allN 0 50 (fun j => isTrue (callF (EG m (orc15 m)) 100000 9 [.sint .i64 n [(-50, 44)], .sint .i64 d [(-50, .ofNat j)], .bool true] Hp.empty)) = true := by kernel_rfl
end
end Tz
namespace Tz
open Go Ax
variable [Ax.Sy]
noncomputable section
set_option maxRecDepth 1000000 in
theorem runFilterLimit_45_0_0 (m n d : Int) : allN 0 50 (fun j => isTrue (callF (EG m (orc15 m)) 100000 9 [.sint .i64 n [(-50, 45)], .sint .i64 d [(-50, .ofNat j)], .bool false] Hp.empty)) = true := by kernel_rfl
set_option maxRecDepth 1000000 in
theorem runFilterLimit_45_1_0 (m n d : Int) : allN 0 50 (fun j => isTrue (callF (EG m (orc15 m)) 100000 9 [.sint .i64 n [(-50, 45)], .sint .i64 d [(-50, .ofNat j)], .bool true] Hp.empty)) = true := by kernel_rfl
set_option maxRecDepth 1000000 in
theorem runFilterLimit_46_0_0 (m n d : Int) : allN 0 50 (fun j => isTrue (callF (EG m (orc15 m)) 100000 9 [.sint .i64 n [(-50, 46)], .sint .i64 d [(-50, .ofNat j)], .bool false] Hp.empty)) = true := by kernel_rfl
set_option maxRecDepth 1000000 in
theorem runFilterLimit_46_1_0 (m n d : Int) : allN 0 50 (fun j => isTrue (callF (EG m (orc15 m)) 100000 9 [.sint .i64 n [(-50, 46)], .sint .i64 d [(-50, .ofNat j)], .bool true] Hp.empty)) = true := by kernel_rfl
set_option maxRecDepth 1000000 in
theorem runFilterLimit_47_0_0 (m n d : Int) : allN 0 50 (fun j => isTrue (callF (EG m (orc15 m)) 100000 9 [.sint .i64 n [(-50, 47)], .sint .i64 d [(-50, .ofNat j)], .bool false] Hp.empty)) = true := by kernel_rfl
set_option maxRecDepth 1000000 in
theorem runFilterLimit_47_1_0 (m n d : Int) : allN 0 50 (fun j => isTrue (callF (EG m (orc15 m)) 100000 9 [.sint .i64 n [(-50, 47)], .sint .i64 d [(-50, .ofNat j)], .bool true] Hp.empty)) = true := by kernel_rfl
set_option maxRecDepth 1000000 in
theorem runFilterLimit_48_0_0 (m n d : Int) : allN 0 50 (fun j => isTrue (callF (EG m (orc15 m)) 100000 9 [.sint .i64 n [(-50, 48)], .sint .i64 d [(-50, .ofNat j)], .bool false] Hp.empty)) = true := by kernel_rfl
set_option maxRecDepth 1000000 in
theorem runFilterLimit_48_1_0 (m n d : Int) : allN 0 50 (fun j => isTrue (callF (EG m (orc15 m)) 100000 9 [.sint .i64 n [(-50, 48)], .sint .i64 d [(-50, .ofNat j)], .bool true] Hp.empty)) = true := by kernel_rfl
set_option maxRecDepth 1000000 in
theorem runFilterLimit_49_0_0 (m n d : Int) : allN 0 50 (fun j => isTrue (callF (EG m (orc15 m)) 100000 9 [.sint .i64 n [(-50, 49)], .sint .i64 d [(-50, .ofNat j)], .bool false] Hp.empty)) = true := by kernel_rfl
set_option maxRecDepth 1000000 in
theorem runFilterLimit_49_1_0 (m n d : Int) : allN 0 50 (fun j => isTrue (callF (EG m (orc15 m)) 100000 9 [.sint .i64 n [(-50, 49)], .sint .i64 d [(-50, .ofNat j)], .bool true] Hp.empty)) = true := by kernel_rfl
end
end Tz
