/- A closed run of StoreNone; on no condition. -/
import Derived.Test.YtffbpmmagoiooaaGreatDoorBegc
set_option linter.unusedVariables false
set_option linter.unusedSimpArgs false
namespace Tz
open Go Ax
noncomputable section
set_option maxRecDepth 1000000 in
theorem runNone (m : Int) : isTrue (call (EG m (orc13 m)) 100000 12 [] Hp.empty) = true := by kernel_rfl
end
end Tz
