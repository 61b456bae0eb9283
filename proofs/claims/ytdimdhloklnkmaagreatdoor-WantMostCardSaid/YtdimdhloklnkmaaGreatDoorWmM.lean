/- So much may be asked (closed runs); on no condition. -/
import Derived.Test.YtdimdhloklnkmaaGreatDoorWmT
set_option linter.unusedVariables false
set_option linter.unusedSimpArgs false
set_option linter.unusedSectionVars false
namespace Tz
open Go Ax
variable [Ax.Sy]
noncomputable section
def wmMay (n k : Nat) : Frag := { as0 := [.agg [.slc (some (.own 0, 0)) n (.u 32), .slc (some (.own 1, 0)) k (.u 32), .slc none 0 (.k 0), .int .i64 (.ofNat 0), .flt .f64 0, .bool false, .int .i64 (.ofNat 0), .flt .f64 0, .int .i64 (.ofNat 0), .bool false]], n0 := 2, H0 := [(0, .row 46 (.byt (.pk (Nat.mul 32 n) (wmRow 1 n))) (some 32)), (1, .row 46 (.byt (.pk (Nat.mul 32 k) (wmRow 2 k))) (some 32))], v0 := .int .i64 (.ofNat 0), n1 := 100000, chg := [] }
def wmGet (n k : Nat) : Frag := { as0 := [.str (wmS n k)], n0 := 0, H0 := [], v0 := .tup [.agg [.slc (some (.own (Nat.add 29 (Nat.add (Nat.mul 27 n) (Nat.mul 11 k))), 0)) n (.u 32), .slc (some (.own (Nat.add 29 (Nat.add (Nat.mul 27 n) (Nat.mul 27 k))), 0)) k (.u 32), .slc none 0 (.k 0), .int .i64 (.ofNat 0), .flt .f64 0, .bool false, .int .i64 (.ofNat 0), .flt .f64 0, .int .i64 (.ofNat 0), .bool false], .int .i64 (.ofNat 0)], n1 := 200000, chg := [(Nat.add 29 (Nat.add (Nat.mul 27 n) (Nat.mul 11 k)), some (.row 46 (.byt (.pk (Nat.mul 32 n) (wmRow 1 n))) (some 32))), (Nat.add 29 (Nat.add (Nat.mul 27 n) (Nat.mul 27 k)), some (.row 46 (.byt (.pk (Nat.mul 32 k) (wmRow 2 k))) (some 32)))] }
set_option maxRecDepth 1000000 in
theorem wmMay_run38_197 (m : Int) : chkF (wmMay 38 197) (callF (EG m (orcWm m)) 100000 17 (wmMay 38 197).as0 (hpOf (wmMay 38 197).H0 (wmMay 38 197).n0)) = true := by kernel_rfl
set_option maxRecDepth 1000000 in
theorem wmMay_run38_198 (m : Int) : chkF (wmMay 38 198) (callF (EG m (orcWm m)) 100000 17 (wmMay 38 198).as0 (hpOf (wmMay 38 198).H0 (wmMay 38 198).n0)) = true := by kernel_rfl
set_option maxRecDepth 1000000 in
theorem wmMay_run38_199 (m : Int) : chkF (wmMay 38 199) (callF (EG m (orcWm m)) 100000 17 (wmMay 38 199).as0 (hpOf (wmMay 38 199).H0 (wmMay 38 199).n0)) = true := by kernel_rfl
set_option maxRecDepth 1000000 in
theorem wmMay_run38_200 (m : Int) : chkF (wmMay 38 200) (callF (EG m (orcWm m)) 100000 17 (wmMay 38 200).as0 (hpOf (wmMay 38 200).H0 (wmMay 38 200).n0)) = true := by kernel_rfl
set_option maxRecDepth 1000000 in
theorem wmMay_run39_197 (m : Int) : chkF (wmMay 39 197) (callF (EG m (orcWm m)) 100000 17 (wmMay 39 197).as0 (hpOf (wmMay 39 197).H0 (wmMay 39 197).n0)) = true := by kernel_rfl
set_option maxRecDepth 1000000 in
theorem wmMay_run39_198 (m : Int) : chkF (wmMay 39 198) (callF (EG m (orcWm m)) 100000 17 (wmMay 39 198).as0 (hpOf (wmMay 39 198).H0 (wmMay 39 198).n0)) = true := by kernel_rfl
set_option maxRecDepth 1000000 in
theorem wmMay_run39_199 (m : Int) : chkF (wmMay 39 199) (callF (EG m (orcWm m)) 100000 17 (wmMay 39 199).as0 (hpOf (wmMay 39 199).H0 (wmMay 39 199).n0)) = true := by kernel_rfl
set_option maxRecDepth 1000000 in
theorem wmMay_run39_200 (m : Int) : chkF (wmMay 39 200) (callF (EG m (orcWm m)) 100000 17 (wmMay 39 200).as0 (hpOf (wmMay 39 200).H0 (wmMay 39 200).n0)) = true := by kernel_rfl
set_option maxRecDepth 1000000 in
theorem wmMay_run40_197 (m : Int) : chkF (wmMay 40 197) (callF (EG m (orcWm m)) 100000 17 (wmMay 40 197).as0 (hpOf (wmMay 40 197).H0 (wmMay 40 197).n0)) = true := by kernel_rfl
set_option maxRecDepth 1000000 in
theorem wmMay_run40_198 (m : Int) : chkF (wmMay 40 198) (callF (EG m (orcWm m)) 100000 17 (wmMay 40 198).as0 (hpOf (wmMay 40 198).H0 (wmMay 40 198).n0)) = true := by kernel_rfl
set_option maxRecDepth 1000000 in
theorem wmMay_run40_199 (m : Int) : chkF (wmMay 40 199) (callF (EG m (orcWm m)) 100000 17 (wmMay 40 199).as0 (hpOf (wmMay 40 199).H0 (wmMay 40 199).n0)) = true := by kernel_rfl
set_option maxRecDepth 1000000 in
theorem wmMay_run40_200 (m : Int) : chkF (wmMay 40 200) (callF (EG m (orcWm m)) 100000 17 (wmMay 40 200).as0 (hpOf (wmMay 40 200).H0 (wmMay 40 200).n0)) = true := by kernel_rfl
theorem wmMay_ok38_197 (m : Int) (ng : Nat) : OOk Go.Proofs.Tryz.prog ng (gls m) 17 (oFrag (wmMay 38 197)) := oFrag_ok (plain m) (EG_ok m ng (orcWm_ok m ng)) (by rw [← callF_eq]; exact wmMay_run38_197 m)
theorem wmMay_ok38_198 (m : Int) (ng : Nat) : OOk Go.Proofs.Tryz.prog ng (gls m) 17 (oFrag (wmMay 38 198)) := oFrag_ok (plain m) (EG_ok m ng (orcWm_ok m ng)) (by rw [← callF_eq]; exact wmMay_run38_198 m)
theorem wmMay_ok38_199 (m : Int) (ng : Nat) : OOk Go.Proofs.Tryz.prog ng (gls m) 17 (oFrag (wmMay 38 199)) := oFrag_ok (plain m) (EG_ok m ng (orcWm_ok m ng)) (by rw [← callF_eq]; exact wmMay_run38_199 m)
theorem wmMay_ok38_200 (m : Int) (ng : Nat) : OOk Go.Proofs.Tryz.prog ng (gls m) 17 (oFrag (wmMay 38 200)) := oFrag_ok (plain m) (EG_ok m ng (orcWm_ok m ng)) (by rw [← callF_eq]; exact wmMay_run38_200 m)
theorem wmMay_ok39_197 (m : Int) (ng : Nat) : OOk Go.Proofs.Tryz.prog ng (gls m) 17 (oFrag (wmMay 39 197)) := oFrag_ok (plain m) (EG_ok m ng (orcWm_ok m ng)) (by rw [← callF_eq]; exact wmMay_run39_197 m)
theorem wmMay_ok39_198 (m : Int) (ng : Nat) : OOk Go.Proofs.Tryz.prog ng (gls m) 17 (oFrag (wmMay 39 198)) := oFrag_ok (plain m) (EG_ok m ng (orcWm_ok m ng)) (by rw [← callF_eq]; exact wmMay_run39_198 m)
theorem wmMay_ok39_199 (m : Int) (ng : Nat) : OOk Go.Proofs.Tryz.prog ng (gls m) 17 (oFrag (wmMay 39 199)) := oFrag_ok (plain m) (EG_ok m ng (orcWm_ok m ng)) (by rw [← callF_eq]; exact wmMay_run39_199 m)
theorem wmMay_ok39_200 (m : Int) (ng : Nat) : OOk Go.Proofs.Tryz.prog ng (gls m) 17 (oFrag (wmMay 39 200)) := oFrag_ok (plain m) (EG_ok m ng (orcWm_ok m ng)) (by rw [← callF_eq]; exact wmMay_run39_200 m)
theorem wmMay_ok40_197 (m : Int) (ng : Nat) : OOk Go.Proofs.Tryz.prog ng (gls m) 17 (oFrag (wmMay 40 197)) := oFrag_ok (plain m) (EG_ok m ng (orcWm_ok m ng)) (by rw [← callF_eq]; exact wmMay_run40_197 m)
theorem wmMay_ok40_198 (m : Int) (ng : Nat) : OOk Go.Proofs.Tryz.prog ng (gls m) 17 (oFrag (wmMay 40 198)) := oFrag_ok (plain m) (EG_ok m ng (orcWm_ok m ng)) (by rw [← callF_eq]; exact wmMay_run40_198 m)
theorem wmMay_ok40_199 (m : Int) (ng : Nat) : OOk Go.Proofs.Tryz.prog ng (gls m) 17 (oFrag (wmMay 40 199)) := oFrag_ok (plain m) (EG_ok m ng (orcWm_ok m ng)) (by rw [← callF_eq]; exact wmMay_run40_199 m)
theorem wmMay_ok40_200 (m : Int) (ng : Nat) : OOk Go.Proofs.Tryz.prog ng (gls m) 17 (oFrag (wmMay 40 200)) := oFrag_ok (plain m) (EG_ok m ng (orcWm_ok m ng)) (by rw [← callF_eq]; exact wmMay_run40_200 m)
def orcWa (m : Int) : T Oc := ((orcWm m).put (some (oElse (oFrag (wmMay 38 197)) (oElse (oFrag (wmMay 38 198)) (oElse (oFrag (wmMay 38 199)) (oElse (oFrag (wmMay 38 200)) (oElse (oFrag (wmMay 39 197)) (oElse (oFrag (wmMay 39 198)) (oElse (oFrag (wmMay 39 199)) (oElse (oFrag (wmMay 39 200)) (oElse (oFrag (wmMay 40 197)) (oElse (oFrag (wmMay 40 198)) (oElse (oFrag (wmMay 40 199)) (oFrag (wmMay 40 200)))))))))))))) (Ps.key 17))
theorem orcWa_ok (m : Int) (ng : Nat) : OrcsOk Go.Proofs.Tryz.prog ng (gls m) (orcWa m) := (orcs_put (orcWm_ok m ng) (oElse_ok (wmMay_ok38_197 m ng) (oElse_ok (wmMay_ok38_198 m ng) (oElse_ok (wmMay_ok38_199 m ng) (oElse_ok (wmMay_ok38_200 m ng) (oElse_ok (wmMay_ok39_197 m ng) (oElse_ok (wmMay_ok39_198 m ng) (oElse_ok (wmMay_ok39_199 m ng) (oElse_ok (wmMay_ok39_200 m ng) (oElse_ok (wmMay_ok40_197 m ng) (oElse_ok (wmMay_ok40_198 m ng) (oElse_ok (wmMay_ok40_199 m ng) (wmMay_ok40_200 m ng)))))))))))))
end
end Tz
