/- law1.Text at thirty gives the first thirty bytes; on no condition. -/
import Derived.WalkKit
import Derived.KernelRfl
import Derived.Test.YtffbpmmagoiooaaGreatDoorProg
set_option linter.unusedVariables false
set_option linter.unusedSimpArgs false
set_option linter.unusedSectionVars false
namespace Tz
open Go Go.Proofs Go.RowKit
set_option maxRecDepth 100000 in
theorem text_short (s : ByteArray) (w : World) (hs : s.size ≤ 30) : Calls Tryz.prog 20 #[.string s, .int .i64 30] w fun e w' => e = .returned (.string s) ∧ w' = w := by
  go_enter Tryz.func20, Tryz.ntmps20
  go_wp2
  go_ret
  exact ⟨rfl, rfl⟩
set_option maxRecDepth 100000 in
theorem text_long (s : ByteArray) (w : World) (hs : 30 < s.size) : Calls Tryz.prog 20 #[.string s, .int .i64 30] w fun e w' => e = .returned (.string (s.extract 0 30)) ∧ w' = w := by
  have h1 : ¬ (s.size : Int) ≤ 30 := by omega
  have h2 : (30 : Int) < (s.size : Int) := by omega
  have h3 : 30 ≤ s.size := by omega
  go_enter Tryz.func20, Tryz.ntmps20
  go_wp2
  go_ret

  exact ⟨rfl, rfl⟩
end Tz
