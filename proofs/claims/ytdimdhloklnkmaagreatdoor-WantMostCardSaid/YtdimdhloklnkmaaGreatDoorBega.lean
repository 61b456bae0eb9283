/- Layer 1 has begun (a closed run); on no condition. -/
import Derived.Test.YtdimdhloklnkmaaGreatDoorOra
set_option linter.unusedVariables false
set_option linter.unusedSimpArgs false
set_option linter.unusedSectionVars false
namespace Tz
open Go Ax
variable [Ax.Sy]
noncomputable section
set_option maxRecDepth 1000000 in
theorem run1 (m : Int) : isTrue (callF (EG m (orcA m 5)) 100000 428 [] Hp.empty) = true := by kernel_rfl
theorem begun1_ok (m : Int) (ng : Nat) : OOk Go.Proofs.Tryz.prog ng (gls m) 428 oTrue := true_ok m (orcA_ok m 5) (run1 m) ng
def orcB (m : Int) : T Oc := (orcA m 5).put (some oTrue) (Ps.key 428)
theorem orcB_ok (m : Int) (ng : Nat) : OrcsOk Go.Proofs.Tryz.prog ng (gls m) (orcB m) := orcs_put (orcA_ok m 5 ng) (begun1_ok m ng)
end
end Tz
