/- Layer 19 has begun (a closed run); on no condition. -/
import Derived.Test.YtdimdhloklnkmaaGreatDoorBegf
set_option linter.unusedVariables false
set_option linter.unusedSimpArgs false
set_option linter.unusedSectionVars false
namespace Tz
open Go Ax
variable [Ax.Sy]
noncomputable section
set_option maxRecDepth 1000000 in
theorem run19 (m : Int) : isTrue (callF (EG m (orcM19 m)) 100000 12 [] Hp.empty) = true := by kernel_rfl
theorem begun19_ok (m : Int) (ng : Nat) : OOk Go.Proofs.Tryz.prog ng (gls m) 12 oTrue := true_ok m (orcM19_ok m) (run19 m) ng
def orc19 (m : Int) : T Oc := (orcM19 m).put (some oTrue) (Ps.key 12)
theorem orc19_ok (m : Int) (ng : Nat) : OrcsOk Go.Proofs.Tryz.prog ng (gls m) (orc19 m) := orcs_put (orcM19_ok m ng) (begun19_ok m ng)
end
end Tz
