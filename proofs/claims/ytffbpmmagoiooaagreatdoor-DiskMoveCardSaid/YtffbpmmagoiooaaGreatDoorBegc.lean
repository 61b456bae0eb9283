/- Layer 13 has begun (a closed run); on no condition. -/
import Derived.Test.YtffbpmmagoiooaaGreatDoorBegb
set_option linter.unusedVariables false
set_option linter.unusedSimpArgs false
set_option linter.unusedSectionVars false
namespace Tz
open Go Ax
variable [Ax.Sy]
noncomputable section
set_option maxRecDepth 1000000 in
theorem run13 (m : Int) : isTrue (call (EG m (orc9 m)) 100000 13 [] Hp.empty) = true := by kernel_rfl
theorem begun13_ok (m : Int) (ng : Nat) : OOk Go.Proofs.Tryz.prog ng (gls m) 13 oTrue := true_ok m (orc9_ok m) (run13 m) ng
def orc13 (m : Int) : T Oc := (orc9 m).put (some oTrue) (Ps.key 13)
theorem orc13_ok (m : Int) (ng : Nat) : OrcsOk Go.Proofs.Tryz.prog ng (gls m) (orc13 m) := orcs_put (orc9_ok m ng) (begun13_ok m ng)
end
end Tz
