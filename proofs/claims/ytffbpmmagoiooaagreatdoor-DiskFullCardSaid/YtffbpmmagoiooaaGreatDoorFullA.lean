/- Closed runs of DiskFull; on no condition. -/
import Derived.Test.YtffbpmmagoiooaaGreatDoorBegc
set_option linter.unusedVariables false
set_option linter.unusedSimpArgs false
namespace Tz
open Go Ax
noncomputable section
set_option maxRecDepth 1000000 in
theorem runFullm7 (m n : Int) : isTrue (call (EG m (orc13 m)) 100000 3 [.sint .i64 n [(8, -7)]] Hp.empty) = true := by kernel_rfl
set_option maxRecDepth 1000000 in
theorem runFullm6 (m n : Int) : isTrue (call (EG m (orc13 m)) 100000 3 [.sint .i64 n [(8, -6)]] Hp.empty) = true := by kernel_rfl
set_option maxRecDepth 1000000 in
theorem runFullm5 (m n : Int) : isTrue (call (EG m (orc13 m)) 100000 3 [.sint .i64 n [(8, -5)]] Hp.empty) = true := by kernel_rfl
set_option maxRecDepth 1000000 in
theorem runFullm4 (m n : Int) : isTrue (call (EG m (orc13 m)) 100000 3 [.sint .i64 n [(8, -4)]] Hp.empty) = true := by kernel_rfl
end
end Tz
