/- Closed runs of DiskFull; on no condition. -/
import Derived.Test.YtffbpmmagoiooaaGreatDoorBegc
set_option linter.unusedVariables false
set_option linter.unusedSimpArgs false
namespace Tz
open Go Ax
noncomputable section
set_option maxRecDepth 1000000 in
theorem runFull1 (m n : Int) : isTrue (call (EG m (orc13 m)) 100000 3 [.sint .i64 n [(8, 1)]] Hp.empty) = true := by kernel_rfl
set_option maxRecDepth 1000000 in
theorem runFull2 (m n : Int) : isTrue (call (EG m (orc13 m)) 100000 3 [.sint .i64 n [(8, 2)]] Hp.empty) = true := by kernel_rfl
set_option maxRecDepth 1000000 in
theorem runFull3 (m n : Int) : isTrue (call (EG m (orc13 m)) 100000 3 [.sint .i64 n [(8, 3)]] Hp.empty) = true := by kernel_rfl
set_option maxRecDepth 1000000 in
theorem runFull4 (m n : Int) : isTrue (call (EG m (orc13 m)) 100000 3 [.sint .i64 n [(8, 4)]] Hp.empty) = true := by kernel_rfl
end
end Tz
