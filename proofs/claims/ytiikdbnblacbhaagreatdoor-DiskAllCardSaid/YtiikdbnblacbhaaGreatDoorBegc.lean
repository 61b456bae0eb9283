/- Layer 13 has begun (a closed run); on no condition. -/
import Derived.Test.YtiikdbnblacbhaaGreatDoorBegb
import Derived.Test.YtiikdbnblacbhaaGreatDoorCmp
import Derived.Test.YtiikdbnblacbhaaGreatDoorKeyd
set_option linter.unusedVariables false
set_option linter.unusedSimpArgs false
set_option linter.unusedSectionVars false
namespace Tz
open Go Ax
variable [Ax.Sy]
noncomputable section
theorem sort_ok (m : Int) (ng : Nat) : OOk Go.Proofs.Tryz.prog ng (gls m) 79 (oSort 9 136) :=
  oSort_ok isU fun Bm of b nn D0 w h1 h2 h3 h4 h5 => sorted_keys Bm of b nn D0 w h1 h2 h3 h4 h5
def orcS (m : Int) : T Oc := (((orc9 m).put (some (oSort 9 136)) (Ps.key 79)).put (some (oSortF 29 89)) (Ps.key 88)).put (some (oCloneP 29)) (Ps.key 53)
theorem orcS_ok (m : Int) (ng : Nat) : OrcsOk Go.Proofs.Tryz.prog ng (gls m) (orcS m) := orcs_put (orcs_put (orcs_put (orc9_ok m ng) (sort_ok m ng)) (oSortF_ok sortIds_law)) (oCloneP_ok cloneIds_law)
set_option maxRecDepth 1000000 in
theorem run13 (m : Int) : isTrue (callF (EG m (orcS m)) 100000 8 [] Hp.empty) = true := by kernel_rfl
theorem begun13_ok (m : Int) (ng : Nat) : OOk Go.Proofs.Tryz.prog ng (gls m) 8 oTrue := true_ok m (orcS_ok m) (run13 m) ng
def orc13 (m : Int) : T Oc := (orcS m).put (some oTrue) (Ps.key 8)
theorem orc13_ok (m : Int) (ng : Nat) : OrcsOk Go.Proofs.Tryz.prog ng (gls m) (orc13 m) := orcs_put (orcS_ok m ng) (begun13_ok m ng)
end
end Tz
