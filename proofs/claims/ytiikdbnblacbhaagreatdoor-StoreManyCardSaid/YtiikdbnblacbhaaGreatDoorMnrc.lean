/- StoreMany at every argument that its name carries (a closed run each); on no condition. -/
import Derived.Test.YtiikdbnblacbhaaGreatDoorMng
set_option linter.unusedVariables false
set_option linter.unusedSimpArgs false
set_option linter.unusedSectionVars false
namespace Tz
open Go Ax
variable [Ax.Sy]
noncomputable section
set_option maxRecDepth 1000000 in
theorem runStoreMany_18_0 (m n : Int) : isTrue (callF (EG m (orcMc m)) 100000 5 [.sint .i64 n [(-30, 18)], .bool false] Hp.empty) = true := by kernel_rfl
set_option maxRecDepth 1000000 in
theorem runStoreMany_18_1 (m n : Int) : isTrue (callF (EG m (orcMc m)) 100000 5 [.sint .i64 n [(-30, 18)], .bool true] Hp.empty) = true := by kernel_rfl
set_option maxRecDepth 1000000 in
theorem runStoreMany_19_0 (m n : Int) : isTrue (callF (EG m (orcMc m)) 100000 5 [.sint .i64 n [(-30, 19)], .bool false] Hp.empty) = true := by kernel_rfl
set_option maxRecDepth 1000000 in
theorem runStoreMany_19_1 (m n : Int) : isTrue (callF (EG m (orcMc m)) 100000 5 [.sint .i64 n [(-30, 19)], .bool true] Hp.empty) = true := by kernel_rfl
set_option maxRecDepth 1000000 in
theorem runStoreMany_20_0 (m n : Int) : isTrue (callF (EG m (orcMc m)) 100000 5 [.sint .i64 n [(-30, 20)], .bool false] Hp.empty) = true := by kernel_rfl
set_option maxRecDepth 1000000 in
theorem runStoreMany_20_1 (m n : Int) : isTrue (callF (EG m (orcMc m)) 100000 5 [.sint .i64 n [(-30, 20)], .bool true] Hp.empty) = true := by kernel_rfl
end
end Tz
namespace Tz
open Go Ax
variable [Ax.Sy]
noncomputable section
set_option maxRecDepth 1000000 in
theorem runStoreMany_21_0 (m n : Int) : isTrue (callF (EG m (orcMc m)) 100000 5 [.sint .i64 n [(-30, 21)], .bool false] Hp.empty) = true := by kernel_rfl
set_option maxRecDepth 1000000 in
theorem runStoreMany_21_1 (m n : Int) : isTrue (callF (EG m (orcMc m)) 100000 5 [.sint .i64 n [(-30, 21)], .bool true] Hp.empty) = true := by kernel_rfl
set_option maxRecDepth 1000000 in
theorem runStoreMany_22_0 (m n : Int) : isTrue (callF (EG m (orcMc m)) 100000 5 [.sint .i64 n [(-30, 22)], .bool false] Hp.empty) = true := by kernel_rfl
set_option maxRecDepth 1000000 in
theorem runStoreMany_22_1 (m n : Int) : isTrue (callF (EG m (orcMc m)) 100000 5 [.sint .i64 n [(-30, 22)], .bool true] Hp.empty) = true := by kernel_rfl
set_option maxRecDepth 1000000 in
theorem runStoreMany_23_0 (m n : Int) : isTrue (callF (EG m (orcMc m)) 100000 5 [.sint .i64 n [(-30, 23)], .bool false] Hp.empty) = true := by kernel_rfl
set_option maxRecDepth 1000000 in
theorem runStoreMany_23_1 (m n : Int) : isTrue (callF (EG m (orcMc m)) 100000 5 [.sint .i64 n [(-30, 23)], .bool true] Hp.empty) = true := by kernel_rfl
end
end Tz
