/- WantMost, run at 39 names; on no condition. -/
import Derived.Test.YtdimdhloklnkmaaGreatDoorWmG
set_option linter.unusedVariables false
set_option linter.unusedSimpArgs false
set_option linter.unusedSectionVars false
namespace Tz
open Go Ax
variable [Ax.Sy]
noncomputable section
set_option maxRecDepth 1000000 in
theorem runWantMost_1_0_0 (m n d : Int) : allN 0 1 (fun j => isTrue (callF (EG m (orcWb m)) 100000 4 [.sint .i64 n [(-5, 1)], .sint .i64 d [(-6, .ofNat j)]] Hp.empty)) = true := by kernel_rfl
set_option maxRecDepth 1000000 in
theorem runWantMost_1_0_1 (m n d : Int) : allN 1 1 (fun j => isTrue (callF (EG m (orcWb m)) 100000 4 [.sint .i64 n [(-5, 1)], .sint .i64 d [(-6, .ofNat j)]] Hp.empty)) = true := by kernel_rfl
set_option maxRecDepth 1000000 in
theorem runWantMost_1_0_2 (m n d : Int) : allN 2 1 (fun j => isTrue (callF (EG m (orcWb m)) 100000 4 [.sint .i64 n [(-5, 1)], .sint .i64 d [(-6, .ofNat j)]] Hp.empty)) = true := by kernel_rfl
set_option maxRecDepth 1000000 in
theorem runWantMost_1_0_3 (m n d : Int) : allN 3 1 (fun j => isTrue (callF (EG m (orcWb m)) 100000 4 [.sint .i64 n [(-5, 1)], .sint .i64 d [(-6, .ofNat j)]] Hp.empty)) = true := by kernel_rfl
set_option maxRecDepth 1000000 in
theorem runWantMost_1_0_4 (m n d : Int) : allN 4 1 (fun j => isTrue (callF (EG m (orcWb m)) 100000 4 [.sint .i64 n [(-5, 1)], .sint .i64 d [(-6, .ofNat j)]] Hp.empty)) = true := by kernel_rfl
set_option maxRecDepth 1000000 in
theorem runWantMost_1_0_5 (m n d : Int) : allN 5 1 (fun j => isTrue (callF (EG m (orcWb m)) 100000 4 [.sint .i64 n [(-5, 1)], .sint .i64 d [(-6, .ofNat j)]] Hp.empty)) = true := by kernel_rfl
end
end Tz
