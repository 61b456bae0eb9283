/- Layer 13 has begun (a closed run); on no condition. -/
import Derived.Test.YtdimdhloklnkmaaGreatDoorBegb
import Derived.Test.YtdimdhloklnkmaaGreatDoorCmp
import Derived.Test.YtdimdhloklnkmaaGreatDoorKeyd
set_option linter.unusedVariables false
set_option linter.unusedSimpArgs false
set_option linter.unusedSectionVars false
namespace Tz
open Go Ax
variable [Ax.Sy]
noncomputable section
theorem sort_ok (m : Int) (ng : Nat) : OOk Go.Proofs.Tryz.prog ng (gls m) 386 (oSort 9 415) :=
  oSort_ok isU fun Bm of b nn D0 w h1 h2 h3 h4 h5 => sorted_keys Bm of b nn D0 w h1 h2 h3 h4 h5
def orcS (m : Int) : T Oc := (((orc9 m).put (some (oSort 9 415)) (Ps.key 386)).put (some (oSortF 46 77)) (Ps.key 76)).put (some (oCloneP 46)) (Ps.key 75)
theorem orcS_ok (m : Int) (ng : Nat) : OrcsOk Go.Proofs.Tryz.prog ng (gls m) (orcS m) := orcs_put (orcs_put (orcs_put (orc9_ok m ng) (sort_ok m ng)) (oSortF_ok sortIds_law)) (oCloneP_ok cloneIds_law)
def orcM (m : Int) : T Oc := (orcS m).put (some (oMiss m (orcS m))) (Ps.key 189)
theorem orcM_ok (m : Int) (ng : Nat) : OrcsOk Go.Proofs.Tryz.prog ng (gls m) (orcM m) := orcs_put (orcS_ok m ng) (miss_ok m ng (orcS_ok m ng))
set_option maxRecDepth 1000000 in
theorem run13 (m : Int) : isTrue (callF (EG m (orcM m)) 100000 185 [] Hp.empty) = true := by kernel_rfl
theorem begun13_ok (m : Int) (ng : Nat) : OOk Go.Proofs.Tryz.prog ng (gls m) 185 oTrue := true_ok m (orcM_ok m) (run13 m) ng
def orc13 (m : Int) : T Oc := (orcM m).put (some oTrue) (Ps.key 185)
theorem orc13_ok (m : Int) (ng : Nat) : OrcsOk Go.Proofs.Tryz.prog ng (gls m) (orc13 m) := orcs_put (orcM_ok m ng) (begun13_ok m ng)
end
end Tz
