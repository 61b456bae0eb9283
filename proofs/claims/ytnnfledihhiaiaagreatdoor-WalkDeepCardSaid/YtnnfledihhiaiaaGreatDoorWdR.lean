/- A run of WalkDeep at every number; on no condition. -/
import Derived.Test.YtnnfledihhiaiaaGreatDoorWdA
import Derived.Test.YtnnfledihhiaiaaGreatDoorWdB
set_option linter.unusedVariables false
set_option linter.unusedSimpArgs false
set_option linter.unusedSectionVars false
namespace Tz
open Go Ax
variable [Ax.Sy]
theorem runWalkDeep (m n : Int) : isTrue (call (EG m (orcDeep m)) 100000 4 [.sint .i64 n [(-8, n % 8)]] Hp.empty) = true := by
  rw [← callF_eq]
  have h0 : 0 ≤ n % 8 := Int.emod_nonneg n (by decide)
  have h1 : n % 8 < 8 := Int.emod_lt_of_pos n (by decide)
  generalize n % 8 = r at *
  rcases (by omega : r = 0 ∨ r = 1 ∨ r = 2 ∨ r = 3 ∨ r = 4 ∨ r = 5 ∨ r = 6 ∨ r = 7) with rfl | rfl | rfl | rfl | rfl | rfl | rfl | rfl
  · exact runWalkDeep_0_0 m n
  · exact runWalkDeep_1_0 m n
  · exact runWalkDeep_2_0 m n
  · exact runWalkDeep_3_0 m n
  · exact runWalkDeep_4_0 m n
  · exact runWalkDeep_5_0 m n
  · exact runWalkDeep_6_0 m n
  · exact runWalkDeep_7_0 m n
end Tz
