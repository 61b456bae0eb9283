/- StoreMany at every argument that its name carries (a closed run each); on no condition. -/
import Derived.Test.YtiikdbnblacbhaaGreatDoorMng
set_option linter.unusedVariables false
set_option linter.unusedSimpArgs false
set_option linter.unusedSectionVars false
namespace Tz
open Go Ax
variable [Ax.Sy]
noncomputable section
set_option maxRecDepth 1000000 in
theorem runStoreMany_24_0 (m n : Int) : isTrue (callF (EG m (orcMc m)) 100000 5 [.sint .i64 n [(-30, 24)], .bool false] Hp.empty) = true := by kernel_rfl
set_option maxRecDepth 1000000 in
theorem runStoreMany_24_1 (m n : Int) : isTrue (callF (EG m (orcMc m)) 100000 5 [.sint .i64 n [(-30, 24)], .bool true] Hp.empty) = true := by kernel_rfl
set_option maxRecDepth 1000000 in
theorem runStoreMany_25_0 (m n : Int) : isTrue (callF (EG m (orcMc m)) 100000 5 [.sint .i64 n [(-30, 25)], .bool false] Hp.empty) = true := by kernel_rfl
set_option maxRecDepth 1000000 in
theorem runStoreMany_25_1 (m n : Int) : isTrue (callF (EG m (orcMc m)) 100000 5 [.sint .i64 n [(-30, 25)], .bool true] Hp.empty) = true := by kernel_rfl
set_option maxRecDepth 1000000 in
theorem runStoreMany_26_0 (m n : Int) : isTrue (callF (EG m (orcMc m)) 100000 5 [.sint .i64 n [(-30, 26)], .bool false] Hp.empty) = true := by kernel_rfl
set_option maxRecDepth 1000000 in
theorem runStoreMany_26_1 (m n : Int) : isTrue (callF (EG m (orcMc m)) 100000 5 [.sint .i64 n [(-30, 26)], .bool true] Hp.empty) = true := by kernel_rfl
end
end Tz
namespace Tz
open Go Ax
variable [Ax.Sy]
noncomputable section
set_option maxRecDepth 1000000 in
theorem runStoreMany_27_0 (m n : Int) : isTrue (callF (EG m (orcMc m)) 100000 5 [.sint .i64 n [(-30, 27)], .bool false] Hp.empty) = true := by kernel_rfl
set_option maxRecDepth 1000000 in
theorem runStoreMany_27_1 (m n : Int) : isTrue (callF (EG m (orcMc m)) 100000 5 [.sint .i64 n [(-30, 27)], .bool true] Hp.empty) = true := by kernel_rfl
set_option maxRecDepth 1000000 in
theorem runStoreMany_28_0 (m n : Int) : isTrue (callF (EG m (orcMc m)) 100000 5 [.sint .i64 n [(-30, 28)], .bool false] Hp.empty) = true := by kernel_rfl
set_option maxRecDepth 1000000 in
theorem runStoreMany_28_1 (m n : Int) : isTrue (callF (EG m (orcMc m)) 100000 5 [.sint .i64 n [(-30, 28)], .bool true] Hp.empty) = true := by kernel_rfl
set_option maxRecDepth 1000000 in
theorem runStoreMany_29_0 (m n : Int) : isTrue (callF (EG m (orcMc m)) 100000 5 [.sint .i64 n [(-30, 29)], .bool false] Hp.empty) = true := by kernel_rfl
set_option maxRecDepth 1000000 in
theorem runStoreMany_29_1 (m n : Int) : isTrue (callF (EG m (orcMc m)) 100000 5 [.sint .i64 n [(-30, 29)], .bool true] Hp.empty) = true := by kernel_rfl
end
end Tz
