/- StoreMany at every argument that its name carries (a closed run each); on no condition. -/
import Derived.Test.YtiikdbnblacbhaaGreatDoorMng
set_option linter.unusedVariables false
set_option linter.unusedSimpArgs false
set_option linter.unusedSectionVars false
namespace Tz
open Go Ax
variable [Ax.Sy]
noncomputable section
set_option maxRecDepth 1000000 in
theorem runStoreMany_0_0 (m n : Int) : isTrue (callF (EG m (orcMc m)) 100000 5 [.sint .i64 n [(-30, 0)], .bool false] Hp.empty) = true := by kernel_rfl
set_option maxRecDepth 1000000 in
theorem runStoreMany_0_1 (m n : Int) : isTrue (callF (EG m (orcMc m)) 100000 5 [.sint .i64 n [(-30, 0)], .bool true] Hp.empty) = true := by kernel_rfl
set_option maxRecDepth 1000000 in
theorem runStoreMany_1_0 (m n : Int) : isTrue (callF (EG m (orcMc m)) 100000 5 [.sint .i64 n [(-30, 1)], .bool false] Hp.empty) = true := by kernel_rfl
set_option maxRecDepth 1000000 in
theorem runStoreMany_1_1 (m n : Int) : isTrue (callF (EG m (orcMc m)) 100000 5 [.sint .i64 n [(-30, 1)], .bool true] Hp.empty) = true := by kernel_rfl
set_option maxRecDepth 1000000 in
theorem runStoreMany_2_0 (m n : Int) : isTrue (callF (EG m (orcMc m)) 100000 5 [.sint .i64 n [(-30, 2)], .bool false] Hp.empty) = true := by kernel_rfl
set_option maxRecDepth 1000000 in
theorem runStoreMany_2_1 (m n : Int) : isTrue (callF (EG m (orcMc m)) 100000 5 [.sint .i64 n [(-30, 2)], .bool true] Hp.empty) = true := by kernel_rfl
end
end Tz
namespace Tz
open Go Ax
variable [Ax.Sy]
noncomputable section
set_option maxRecDepth 1000000 in
theorem runStoreMany_3_0 (m n : Int) : isTrue (callF (EG m (orcMc m)) 100000 5 [.sint .i64 n [(-30, 3)], .bool false] Hp.empty) = true := by kernel_rfl
set_option maxRecDepth 1000000 in
theorem runStoreMany_3_1 (m n : Int) : isTrue (callF (EG m (orcMc m)) 100000 5 [.sint .i64 n [(-30, 3)], .bool true] Hp.empty) = true := by kernel_rfl
set_option maxRecDepth 1000000 in
theorem runStoreMany_4_0 (m n : Int) : isTrue (callF (EG m (orcMc m)) 100000 5 [.sint .i64 n [(-30, 4)], .bool false] Hp.empty) = true := by kernel_rfl
set_option maxRecDepth 1000000 in
theorem runStoreMany_4_1 (m n : Int) : isTrue (callF (EG m (orcMc m)) 100000 5 [.sint .i64 n [(-30, 4)], .bool true] Hp.empty) = true := by kernel_rfl
set_option maxRecDepth 1000000 in
theorem runStoreMany_5_0 (m n : Int) : isTrue (callF (EG m (orcMc m)) 100000 5 [.sint .i64 n [(-30, 5)], .bool false] Hp.empty) = true := by kernel_rfl
set_option maxRecDepth 1000000 in
theorem runStoreMany_5_1 (m n : Int) : isTrue (callF (EG m (orcMc m)) 100000 5 [.sint .i64 n [(-30, 5)], .bool true] Hp.empty) = true := by kernel_rfl
end
end Tz
namespace Tz
open Go Ax
variable [Ax.Sy]
noncomputable section
set_option maxRecDepth 1000000 in
theorem runStoreMany_6_0 (m n : Int) : isTrue (callF (EG m (orcMc m)) 100000 5 [.sint .i64 n [(-30, 6)], .bool false] Hp.empty) = true := by kernel_rfl
set_option maxRecDepth 1000000 in
theorem runStoreMany_6_1 (m n : Int) : isTrue (callF (EG m (orcMc m)) 100000 5 [.sint .i64 n [(-30, 6)], .bool true] Hp.empty) = true := by kernel_rfl
set_option maxRecDepth 1000000 in
theorem runStoreMany_7_0 (m n : Int) : isTrue (callF (EG m (orcMc m)) 100000 5 [.sint .i64 n [(-30, 7)], .bool false] Hp.empty) = true := by kernel_rfl
set_option maxRecDepth 1000000 in
theorem runStoreMany_7_1 (m n : Int) : isTrue (callF (EG m (orcMc m)) 100000 5 [.sint .i64 n [(-30, 7)], .bool true] Hp.empty) = true := by kernel_rfl
set_option maxRecDepth 1000000 in
theorem runStoreMany_8_0 (m n : Int) : isTrue (callF (EG m (orcMc m)) 100000 5 [.sint .i64 n [(-30, 8)], .bool false] Hp.empty) = true := by kernel_rfl
set_option maxRecDepth 1000000 in
theorem runStoreMany_8_1 (m n : Int) : isTrue (callF (EG m (orcMc m)) 100000 5 [.sint .i64 n [(-30, 8)], .bool true] Hp.empty) = true := by kernel_rfl
end
end Tz
