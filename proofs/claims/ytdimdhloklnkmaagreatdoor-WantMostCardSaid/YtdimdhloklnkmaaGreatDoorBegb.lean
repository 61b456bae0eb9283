/- Layers 6 and 9 have begun (closed runs); on no condition. -/
import Derived.Test.YtdimdhloklnkmaaGreatDoorBega
set_option linter.unusedVariables false
set_option linter.unusedSimpArgs false
set_option linter.unusedSectionVars false
namespace Tz
open Go Ax
variable [Ax.Sy]
noncomputable section
set_option maxRecDepth 1000000 in
theorem run6 (m : Int) : isTrue (callF (EG m (orcB m)) 100000 397 [] Hp.empty) = true := by kernel_rfl
theorem begun6_ok (m : Int) (ng : Nat) : OOk Go.Proofs.Tryz.prog ng (gls m) 397 oTrue := true_ok m (orcB_ok m) (run6 m) ng
def orc6 (m : Int) : T Oc := (orcB m).put (some oTrue) (Ps.key 397)
theorem orc6_ok (m : Int) (ng : Nat) : OrcsOk Go.Proofs.Tryz.prog ng (gls m) (orc6 m) := orcs_put (orcB_ok m ng) (begun6_ok m ng)
end
end Tz
namespace Tz
open Go Ax
variable [Ax.Sy]
noncomputable section
set_option maxRecDepth 1000000 in
theorem run9 (m : Int) : isTrue (callF (EG m (orc6 m)) 100000 313 [] Hp.empty) = true := by kernel_rfl
theorem begun9_ok (m : Int) (ng : Nat) : OOk Go.Proofs.Tryz.prog ng (gls m) 313 oTrue := true_ok m (orc6_ok m) (run9 m) ng
def orc9 (m : Int) : T Oc := (orc6 m).put (some oTrue) (Ps.key 313)
theorem orc9_ok (m : Int) (ng : Nat) : OrcsOk Go.Proofs.Tryz.prog ng (gls m) (orc9 m) := orcs_put (orc6_ok m ng) (begun9_ok m ng)
end
end Tz
