/- Requests read, as an oracle; on no condition. -/
import Derived.Test.YtdimdhloklnkmaaGreatDoorWmGa
import Derived.Test.YtdimdhloklnkmaaGreatDoorWmGb
import Derived.Test.YtdimdhloklnkmaaGreatDoorWmGc
set_option linter.unusedVariables false
set_option linter.unusedSimpArgs false
set_option linter.unusedSectionVars false
namespace Tz
open Go Ax
variable [Ax.Sy]
noncomputable section
def orcWb (m : Int) : T Oc := ((orcWa m).put (some (oElse (oFrag (wmGet 38 197)) (oElse (oFrag (wmGet 38 198)) (oElse (oFrag (wmGet 38 199)) (oElse (oFrag (wmGet 38 200)) (oElse (oFrag (wmGet 39 197)) (oElse (oFrag (wmGet 39 198)) (oElse (oFrag (wmGet 39 199)) (oElse (oFrag (wmGet 39 200)) (oElse (oFrag (wmGet 40 197)) (oElse (oFrag (wmGet 40 198)) (oElse (oFrag (wmGet 40 199)) (oFrag (wmGet 40 200)))))))))))))) (Ps.key 9))
theorem orcWb_ok (m : Int) (ng : Nat) : OrcsOk Go.Proofs.Tryz.prog ng (gls m) (orcWb m) := (orcs_put (orcWa_ok m ng) (oElse_ok (wmGet_ok38_197 m ng) (oElse_ok (wmGet_ok38_198 m ng) (oElse_ok (wmGet_ok38_199 m ng) (oElse_ok (wmGet_ok38_200 m ng) (oElse_ok (wmGet_ok39_197 m ng) (oElse_ok (wmGet_ok39_198 m ng) (oElse_ok (wmGet_ok39_199 m ng) (oElse_ok (wmGet_ok39_200 m ng) (oElse_ok (wmGet_ok40_197 m ng) (oElse_ok (wmGet_ok40_198 m ng) (oElse_ok (wmGet_ok40_199 m ng) (wmGet_ok40_200 m ng)))))))))))))
end
end Tz
