/- Requests of 39 names read (closed runs); on no condition. -/
import Derived.Test.YtdimdhloklnkmaaGreatDoorWmM
set_option linter.unusedVariables false
set_option linter.unusedSimpArgs false
set_option linter.unusedSectionVars false
namespace Tz
open Go Ax
variable [Ax.Sy]
noncomputable section
set_option maxRecDepth 1000000 in
theorem wmGet_run39_197 (m : Int) : chkF (wmGet 39 197) (callF (EG m (orcWa m)) 100000 9 (wmGet 39 197).as0 (hpOf (wmGet 39 197).H0 (wmGet 39 197).n0)) = true := by kernel_rfl
set_option maxRecDepth 1000000 in
theorem wmGet_run39_198 (m : Int) : chkF (wmGet 39 198) (callF (EG m (orcWa m)) 100000 9 (wmGet 39 198).as0 (hpOf (wmGet 39 198).H0 (wmGet 39 198).n0)) = true := by kernel_rfl
set_option maxRecDepth 1000000 in
theorem wmGet_run39_199 (m : Int) : chkF (wmGet 39 199) (callF (EG m (orcWa m)) 100000 9 (wmGet 39 199).as0 (hpOf (wmGet 39 199).H0 (wmGet 39 199).n0)) = true := by kernel_rfl
set_option maxRecDepth 1000000 in
theorem wmGet_run39_200 (m : Int) : chkF (wmGet 39 200) (callF (EG m (orcWa m)) 100000 9 (wmGet 39 200).as0 (hpOf (wmGet 39 200).H0 (wmGet 39 200).n0)) = true := by kernel_rfl
theorem wmGet_ok39_197 (m : Int) (ng : Nat) : OOk Go.Proofs.Tryz.prog ng (gls m) 9 (oFrag (wmGet 39 197)) := oFrag_ok (plain m) (EG_ok m ng (orcWa_ok m ng)) (by rw [← callF_eq]; exact wmGet_run39_197 m)
theorem wmGet_ok39_198 (m : Int) (ng : Nat) : OOk Go.Proofs.Tryz.prog ng (gls m) 9 (oFrag (wmGet 39 198)) := oFrag_ok (plain m) (EG_ok m ng (orcWa_ok m ng)) (by rw [← callF_eq]; exact wmGet_run39_198 m)
theorem wmGet_ok39_199 (m : Int) (ng : Nat) : OOk Go.Proofs.Tryz.prog ng (gls m) 9 (oFrag (wmGet 39 199)) := oFrag_ok (plain m) (EG_ok m ng (orcWa_ok m ng)) (by rw [← callF_eq]; exact wmGet_run39_199 m)
theorem wmGet_ok39_200 (m : Int) (ng : Nat) : OOk Go.Proofs.Tryz.prog ng (gls m) 9 (oFrag (wmGet 39 200)) := oFrag_ok (plain m) (EG_ok m ng (orcWa_ok m ng)) (by rw [← callF_eq]; exact wmGet_run39_200 m)
end
end Tz
