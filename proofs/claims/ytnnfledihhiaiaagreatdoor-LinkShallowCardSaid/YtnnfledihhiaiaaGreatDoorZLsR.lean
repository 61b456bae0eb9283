/- A run of LinkShallow at every argument; on no condition. -/
import Derived.Test.YtnnfledihhiaiaaGreatDoorZLsA
import Derived.Test.YtnnfledihhiaiaaGreatDoorZLsB
import Derived.Test.YtnnfledihhiaiaaGreatDoorZLsD
set_option linter.unusedVariables false
set_option linter.unusedSimpArgs false
set_option linter.unusedSectionVars false
namespace Tz
open Go Ax
variable [Ax.Sy]
theorem runLinkShallow (m n : Int) (b0 b1 : Bool) : isTrue (call (EG m (orcChain m)) 100000 10 [.sint .i64 n [(-5, n % 5)], .bool b0, .bool b1] Hp.empty) = true := by
  rw [← callF_eq]
  have h0 : 0 ≤ n % 5 := Int.emod_nonneg n (by decide)
  have h1 : n % 5 < 5 := Int.emod_lt_of_pos n (by decide)
  generalize n % 5 = r at *
  rcases (by omega : r = 0 ∨ r = 1 ∨ r = 2 ∨ r = 3 ∨ r = 4) with rfl | rfl | rfl | rfl | rfl
  · cases b0 <;> cases b1
    · exact runLinkShallow_0_0 m n
    · exact runLinkShallow_0_1 m n
    · exact runLinkShallow_0_2 m n
    · exact runLinkShallow_0_3 m n
  · cases b0 <;> cases b1
    · exact runLinkShallow_1_0 m n
    · exact runLinkShallow_1_1 m n
    · exact runLinkShallow_1_2 m n
    · exact runLinkShallow_1_3 m n
  · cases b0 <;> cases b1
    · exact runLinkShallow_2_0 m n
    · exact runLinkShallow_2_1 m n
    · exact runLinkShallow_2_2 m n
    · exact runLinkShallow_2_3 m n
  · cases b0 <;> cases b1
    · exact runLinkShallow_3_0 m n
    · exact runLinkShallow_3_1 m n
    · exact runLinkShallow_3_2 m n
    · exact runLinkShallow_3_3 m n
  · cases b0 <;> cases b1
    · exact runLinkShallow_4_0 m n
    · exact runLinkShallow_4_1 m n
    · exact runLinkShallow_4_2 m n
    · exact runLinkShallow_4_3 m n
end Tz
