/- All the installs as one oracle; on no condition. -/
import Derived.Test.YtiikdbnblacbhaaGreatDoorMnb
import Derived.Test.YtiikdbnblacbhaaGreatDoorMnc
import Derived.Test.YtiikdbnblacbhaaGreatDoorMnd
import Derived.Test.YtiikdbnblacbhaaGreatDoorMne
import Derived.Test.YtiikdbnblacbhaaGreatDoorMnf
set_option linter.unusedVariables false
set_option linter.unusedSimpArgs false
set_option linter.unusedSectionVars false
namespace Tz
open Go Ax
variable [Ax.Sy]
noncomputable section
def oInst : Oc := (oElse (oFrag inst0) (oElse (oFrag inst1) (oElse (oFrag inst2) (oElse (oFrag inst3) (oElse (oFrag inst4) (oElse (oFrag inst5) (oElse (oFrag inst6) (oElse (oFrag inst7) (oElse (oFrag inst8) (oElse (oFrag inst9) (oElse (oFrag inst10) (oElse (oFrag inst11) (oElse (oFrag inst12) (oElse (oFrag inst13) (oElse (oFrag inst14) (oElse (oFrag inst15) (oElse (oFrag inst16) (oElse (oFrag inst17) (oElse (oFrag inst18) (oElse (oFrag inst19) (oElse (oFrag inst20) (oElse (oFrag inst21) (oElse (oFrag inst22) (oElse (oFrag inst23) (oElse (oFrag inst24) (oElse (oFrag inst25) (oElse (oFrag inst26) (oElse (oFrag inst27) (oElse (oFrag inst28) (oFrag inst29))))))))))))))))))))))))))))))
theorem oInst_ok (m : Int) (ng : Nat) : OOk Go.Proofs.Tryz.prog ng (gls m) 12 oInst := (oElse_ok (inst0_ok m ng) (oElse_ok (inst1_ok m ng) (oElse_ok (inst2_ok m ng) (oElse_ok (inst3_ok m ng) (oElse_ok (inst4_ok m ng) (oElse_ok (inst5_ok m ng) (oElse_ok (inst6_ok m ng) (oElse_ok (inst7_ok m ng) (oElse_ok (inst8_ok m ng) (oElse_ok (inst9_ok m ng) (oElse_ok (inst10_ok m ng) (oElse_ok (inst11_ok m ng) (oElse_ok (inst12_ok m ng) (oElse_ok (inst13_ok m ng) (oElse_ok (inst14_ok m ng) (oElse_ok (inst15_ok m ng) (oElse_ok (inst16_ok m ng) (oElse_ok (inst17_ok m ng) (oElse_ok (inst18_ok m ng) (oElse_ok (inst19_ok m ng) (oElse_ok (inst20_ok m ng) (oElse_ok (inst21_ok m ng) (oElse_ok (inst22_ok m ng) (oElse_ok (inst23_ok m ng) (oElse_ok (inst24_ok m ng) (oElse_ok (inst25_ok m ng) (oElse_ok (inst26_ok m ng) (oElse_ok (inst27_ok m ng) (oElse_ok (inst28_ok m ng) (inst29_ok m ng))))))))))))))))))))))))))))))
def orcMc (m : Int) : T Oc := (orcMb m).put (some oInst) (Ps.key 12)
theorem orcMc_ok (m : Int) (ng : Nat) : OrcsOk Go.Proofs.Tryz.prog ng (gls m) (orcMc m) := orcs_put (orcMb_ok m ng) (oInst_ok m ng)
end
end Tz
