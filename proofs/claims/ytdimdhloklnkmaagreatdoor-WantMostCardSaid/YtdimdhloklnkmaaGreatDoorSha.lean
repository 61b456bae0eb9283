/- The mixing of one block by the program, and by the reference, whatever the words and bytes; on no condition. -/
import Derived.Test.YtdimdhloklnkmaaGreatDoorAxD
import Derived.Test.YtdimdhloklnkmaaGreatDoorAxE
import Derived.Test.YtdimdhloklnkmaaGreatDoorTab
set_option linter.unusedVariables false
set_option linter.unusedSimpArgs false
set_option linter.unusedSectionVars false
namespace Tz
open Go Ax
variable [Ax.Sy]
noncomputable section
def E0 (m : Int) : Ax.Env := { P := Go.Proofs.Tryz.prog, gl := gls m, orc := .nil, ext := xs }
theorem E0_ok (m : Int) (ng : Nat) : CalOk Go.Proofs.Tryz.prog ng (gls m) (call (E0 m) 100000) :=
  call_ok (E := E0 m) (xs_ok _ _) (dra_ok (E := E0 m) (plain m) (xs_ok _ _) mixed) (orc_of orcs_nil) 100000
set_option maxRecDepth 1000000 in
theorem runMix (m : Int) (el : TypeId) (x y : Nat → Int) (c : Nat) : summ2 (call (E0 m) 100000 166 [.agg (tabI .u32 8 x), .slc (some (.own 0, 0)) 64 (.k (c + 64))] (mini el (tabI .u8 64 y))) = some ((mixP x y).map fun n => .int .u32 n, some (.row el (.gen (tabI .u8 64 y)) none)) := by kernel_rfl
theorem mix_ok (m : Int) (el : TypeId) (ng : Nat) : OOk Go.Proofs.Tryz.prog ng (gls m) 166 (oPre el fMix) := oMix_ok (E := E0 m) (plain m) (E0_ok m ng) (runMix m el)
end
end Tz
namespace Tz
open Go Ax
variable [Ax.Sy]
noncomputable section
set_option maxRecDepth 1000000 in
theorem runBlk (m : Int) (x : Nat → Int) (y : Nat → UInt8) : summ (call (E0 m) 100000 275 [.agg (tabI .u32 8 x), .str (.lst ((List.range' 0 64).map y))] Hp.empty) = some ((mixR x fun i => ((y i).toNat : Int)).map fun n => .int .u32 n) := by kernel_rfl
theorem blk_ok (m : Int) (ng : Nat) : OOk Go.Proofs.Tryz.prog ng (gls m) 275 (oClo fBlk) := oBlk_ok (E := E0 m) (plain m) (E0_ok m ng) (runBlk m)
end
end Tz
