/- StoreMany at every argument that its name carries (a closed run each); on no condition. -/
import Derived.Test.YtiikdbnblacbhaaGreatDoorMng
set_option linter.unusedVariables false
set_option linter.unusedSimpArgs false
set_option linter.unusedSectionVars false
namespace Tz
open Go Ax
variable [Ax.Sy]
noncomputable section
set_option maxRecDepth 1000000 in
theorem runStoreMany_9_0 (m n : Int) : isTrue (callF (EG m (orcMc m)) 100000 5 [.sint .i64 n [(-30, 9)], .bool false] Hp.empty) = true := by kernel_rfl
set_option maxRecDepth 1000000 in
theorem runStoreMany_9_1 (m n : Int) : isTrue (callF (EG m (orcMc m)) 100000 5 [.sint .i64 n [(-30, 9)], .bool true] Hp.empty) = true := by kernel_rfl
set_option maxRecDepth 1000000 in
theorem runStoreMany_10_0 (m n : Int) : isTrue (callF (EG m (orcMc m)) 100000 5 [.sint .i64 n [(-30, 10)], .bool false] Hp.empty) = true := by kernel_rfl
set_option maxRecDepth 1000000 in
theorem runStoreMany_10_1 (m n : Int) : isTrue (callF (EG m (orcMc m)) 100000 5 [.sint .i64 n [(-30, 10)], .bool true] Hp.empty) = true := by kernel_rfl
set_option maxRecDepth 1000000 in
theorem runStoreMany_11_0 (m n : Int) : isTrue (callF (EG m (orcMc m)) 100000 5 [.sint .i64 n [(-30, 11)], .bool false] Hp.empty) = true := by kernel_rfl
set_option maxRecDepth 1000000 in
theorem runStoreMany_11_1 (m n : Int) : isTrue (callF (EG m (orcMc m)) 100000 5 [.sint .i64 n [(-30, 11)], .bool true] Hp.empty) = true := by kernel_rfl
end
end Tz
namespace Tz
open Go Ax
variable [Ax.Sy]
noncomputable section
set_option maxRecDepth 1000000 in
theorem runStoreMany_12_0 (m n : Int) : isTrue (callF (EG m (orcMc m)) 100000 5 [.sint .i64 n [(-30, 12)], .bool false] Hp.empty) = true := by kernel_rfl
set_option maxRecDepth 1000000 in
theorem runStoreMany_12_1 (m n : Int) : isTrue (callF (EG m (orcMc m)) 100000 5 [.sint .i64 n [(-30, 12)], .bool true] Hp.empty) = true := by kernel_rfl
set_option maxRecDepth 1000000 in
theorem runStoreMany_13_0 (m n : Int) : isTrue (callF (EG m (orcMc m)) 100000 5 [.sint .i64 n [(-30, 13)], .bool false] Hp.empty) = true := by kernel_rfl
set_option maxRecDepth 1000000 in
theorem runStoreMany_13_1 (m n : Int) : isTrue (callF (EG m (orcMc m)) 100000 5 [.sint .i64 n [(-30, 13)], .bool true] Hp.empty) = true := by kernel_rfl
set_option maxRecDepth 1000000 in
theorem runStoreMany_14_0 (m n : Int) : isTrue (callF (EG m (orcMc m)) 100000 5 [.sint .i64 n [(-30, 14)], .bool false] Hp.empty) = true := by kernel_rfl
set_option maxRecDepth 1000000 in
theorem runStoreMany_14_1 (m n : Int) : isTrue (callF (EG m (orcMc m)) 100000 5 [.sint .i64 n [(-30, 14)], .bool true] Hp.empty) = true := by kernel_rfl
end
end Tz
namespace Tz
open Go Ax
variable [Ax.Sy]
noncomputable section
set_option maxRecDepth 1000000 in
theorem runStoreMany_15_0 (m n : Int) : isTrue (callF (EG m (orcMc m)) 100000 5 [.sint .i64 n [(-30, 15)], .bool false] Hp.empty) = true := by kernel_rfl
set_option maxRecDepth 1000000 in
theorem runStoreMany_15_1 (m n : Int) : isTrue (callF (EG m (orcMc m)) 100000 5 [.sint .i64 n [(-30, 15)], .bool true] Hp.empty) = true := by kernel_rfl
set_option maxRecDepth 1000000 in
theorem runStoreMany_16_0 (m n : Int) : isTrue (callF (EG m (orcMc m)) 100000 5 [.sint .i64 n [(-30, 16)], .bool false] Hp.empty) = true := by kernel_rfl
set_option maxRecDepth 1000000 in
theorem runStoreMany_16_1 (m n : Int) : isTrue (callF (EG m (orcMc m)) 100000 5 [.sint .i64 n [(-30, 16)], .bool true] Hp.empty) = true := by kernel_rfl
set_option maxRecDepth 1000000 in
theorem runStoreMany_17_0 (m n : Int) : isTrue (callF (EG m (orcMc m)) 100000 5 [.sint .i64 n [(-30, 17)], .bool false] Hp.empty) = true := by kernel_rfl
set_option maxRecDepth 1000000 in
theorem runStoreMany_17_1 (m n : Int) : isTrue (callF (EG m (orcMc m)) 100000 5 [.sint .i64 n [(-30, 17)], .bool true] Hp.empty) = true := by kernel_rfl
end
end Tz
