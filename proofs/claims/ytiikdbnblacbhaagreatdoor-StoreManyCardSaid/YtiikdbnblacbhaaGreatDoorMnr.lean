/- StoreMany at every number, by its remainder; on no condition. -/
import Derived.Test.YtiikdbnblacbhaaGreatDoorMnra
import Derived.Test.YtiikdbnblacbhaaGreatDoorMnrb
import Derived.Test.YtiikdbnblacbhaaGreatDoorMnrc
import Derived.Test.YtiikdbnblacbhaaGreatDoorMnrd
set_option linter.unusedVariables false
set_option linter.unusedSimpArgs false
set_option linter.unusedSectionVars false
namespace Tz
open Go Ax
variable [Ax.Sy]
theorem runStoreMany (m n : Int) (b0 : Bool) : isTrue (call (EG m (orcMc m)) 100000 5 [.sint .i64 n [(-30, n % 30)], .bool b0] Hp.empty) = true := by
  rw [← callF_eq]
  have h0 : 0 ≤ n % 30 := Int.emod_nonneg n (by decide)
  have h1 : n % 30 < 30 := Int.emod_lt_of_pos n (by decide)
  generalize n % 30 = r at *
  rcases (by omega : r = 0 ∨ r = 1 ∨ r = 2 ∨ r = 3 ∨ r = 4 ∨ r = 5 ∨ r = 6 ∨ r = 7 ∨ r = 8 ∨ r = 9 ∨ r = 10 ∨ r = 11 ∨ r = 12 ∨ r = 13 ∨ r = 14 ∨ r = 15 ∨ r = 16 ∨ r = 17 ∨ r = 18 ∨ r = 19 ∨ r = 20 ∨ r = 21 ∨ r = 22 ∨ r = 23 ∨ r = 24 ∨ r = 25 ∨ r = 26 ∨ r = 27 ∨ r = 28 ∨ r = 29) with rfl | rfl | rfl | rfl | rfl | rfl | rfl | rfl | rfl | rfl | rfl | rfl | rfl | rfl | rfl | rfl | rfl | rfl | rfl | rfl | rfl | rfl | rfl | rfl | rfl | rfl | rfl | rfl | rfl | rfl
  · cases b0
    · exact runStoreMany_0_0 m n
    · exact runStoreMany_0_1 m n
  · cases b0
    · exact runStoreMany_1_0 m n
    · exact runStoreMany_1_1 m n
  · cases b0
    · exact runStoreMany_2_0 m n
    · exact runStoreMany_2_1 m n
  · cases b0
    · exact runStoreMany_3_0 m n
    · exact runStoreMany_3_1 m n
  · cases b0
    · exact runStoreMany_4_0 m n
    · exact runStoreMany_4_1 m n
  · cases b0
    · exact runStoreMany_5_0 m n
    · exact runStoreMany_5_1 m n
  · cases b0
    · exact runStoreMany_6_0 m n
    · exact runStoreMany_6_1 m n
  · cases b0
    · exact runStoreMany_7_0 m n
    · exact runStoreMany_7_1 m n
  · cases b0
    · exact runStoreMany_8_0 m n
    · exact runStoreMany_8_1 m n
  · cases b0
    · exact runStoreMany_9_0 m n
    · exact runStoreMany_9_1 m n
  · cases b0
    · exact runStoreMany_10_0 m n
    · exact runStoreMany_10_1 m n
  · cases b0
    · exact runStoreMany_11_0 m n
    · exact runStoreMany_11_1 m n
  · cases b0
    · exact runStoreMany_12_0 m n
    · exact runStoreMany_12_1 m n
  · cases b0
    · exact runStoreMany_13_0 m n
    · exact runStoreMany_13_1 m n
  · cases b0
    · exact runStoreMany_14_0 m n
    · exact runStoreMany_14_1 m n
  · cases b0
    · exact runStoreMany_15_0 m n
    · exact runStoreMany_15_1 m n
  · cases b0
    · exact runStoreMany_16_0 m n
    · exact runStoreMany_16_1 m n
  · cases b0
    · exact runStoreMany_17_0 m n
    · exact runStoreMany_17_1 m n
  · cases b0
    · exact runStoreMany_18_0 m n
    · exact runStoreMany_18_1 m n
  · cases b0
    · exact runStoreMany_19_0 m n
    · exact runStoreMany_19_1 m n
  · cases b0
    · exact runStoreMany_20_0 m n
    · exact runStoreMany_20_1 m n
  · cases b0
    · exact runStoreMany_21_0 m n
    · exact runStoreMany_21_1 m n
  · cases b0
    · exact runStoreMany_22_0 m n
    · exact runStoreMany_22_1 m n
  · cases b0
    · exact runStoreMany_23_0 m n
    · exact runStoreMany_23_1 m n
  · cases b0
    · exact runStoreMany_24_0 m n
    · exact runStoreMany_24_1 m n
  · cases b0
    · exact runStoreMany_25_0 m n
    · exact runStoreMany_25_1 m n
  · cases b0
    · exact runStoreMany_26_0 m n
    · exact runStoreMany_26_1 m n
  · cases b0
    · exact runStoreMany_27_0 m n
    · exact runStoreMany_27_1 m n
  · cases b0
    · exact runStoreMany_28_0 m n
    · exact runStoreMany_28_1 m n
  · cases b0
    · exact runStoreMany_29_0 m n
    · exact runStoreMany_29_1 m n
end Tz
