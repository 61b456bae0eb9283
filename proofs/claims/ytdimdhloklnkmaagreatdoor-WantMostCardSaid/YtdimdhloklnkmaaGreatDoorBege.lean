/- Layer 15 has begun (a closed run); on no condition. -/
import Derived.Test.YtdimdhloklnkmaaGreatDoorBegd
set_option linter.unusedVariables false
set_option linter.unusedSimpArgs false
set_option linter.unusedSectionVars false
namespace Tz
open Go Ax
variable [Ax.Sy]
noncomputable section
set_option maxRecDepth 1000000 in
theorem run15 (m : Int) : isTrue (callF (EG m (orcM15 m)) 100000 114 [] Hp.empty) = true := by kernel_rfl
theorem begun15_ok (m : Int) (ng : Nat) : OOk Go.Proofs.Tryz.prog ng (gls m) 114 oTrue := true_ok m (orcM15_ok m) (run15 m) ng
def orc15 (m : Int) : T Oc := (orcM15 m).put (some oTrue) (Ps.key 114)
theorem orc15_ok (m : Int) (ng : Nat) : OrcsOk Go.Proofs.Tryz.prog ng (gls m) (orc15 m) := orcs_put (orcM15_ok m ng) (begun15_ok m ng)
end
end Tz
