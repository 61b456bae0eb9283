/- A run of DepthTime at every argument; on no condition. -/
import Derived.Test.YtnnfledihhiaiaaGreatDoorDtA
import Derived.Test.YtnnfledihhiaiaaGreatDoorDtB
import Derived.Test.YtnnfledihhiaiaaGreatDoorDtD
import Derived.Test.YtnnfledihhiaiaaGreatDoorDtE
import Derived.Test.YtnnfledihhiaiaaGreatDoorDtG
set_option linter.unusedVariables false
set_option linter.unusedSimpArgs false
set_option linter.unusedSectionVars false
namespace Tz
open Go Ax
variable [Ax.Sy]
theorem runDepthTime (m n : Int) (t : AV) (ht : t ∈ ts0 ∨ t ∈ ts1 ∨ t ∈ ts2 ∨ t ∈ ts3 ∨ t ∈ ts4) : isTrue (call (EG m (orcTime m)) 100000 6 [.sint .i64 n [(-9, n % 9)], t] Hp.empty) = true := by
  rw [← callF_eq]
  have h0 : 0 ≤ n % 9 := Int.emod_nonneg n (by decide)
  have h1 : n % 9 < 9 := Int.emod_lt_of_pos n (by decide)
  generalize n % 9 = r at *
  rcases (by omega : r = 0 ∨ r = 1 ∨ r = 2 ∨ r = 3 ∨ r = 4 ∨ r = 5 ∨ r = 6 ∨ r = 7 ∨ r = 8) with rfl | rfl | rfl | rfl | rfl | rfl | rfl | rfl | rfl
  · rcases ht with h | h | h | h | h
    · exact allV_ok (runDepthTime_0_0 m n) t h
    · exact allV_ok (runDepthTime_0_1 m n) t h
    · exact allV_ok (runDepthTime_0_2 m n) t h
    · exact allV_ok (runDepthTime_0_3 m n) t h
    · exact allV_ok (runDepthTime_0_4 m n) t h
  · rcases ht with h | h | h | h | h
    · exact allV_ok (runDepthTime_1_0 m n) t h
    · exact allV_ok (runDepthTime_1_1 m n) t h
    · exact allV_ok (runDepthTime_1_2 m n) t h
    · exact allV_ok (runDepthTime_1_3 m n) t h
    · exact allV_ok (runDepthTime_1_4 m n) t h
  · rcases ht with h | h | h | h | h
    · exact allV_ok (runDepthTime_2_0 m n) t h
    · exact allV_ok (runDepthTime_2_1 m n) t h
    · exact allV_ok (runDepthTime_2_2 m n) t h
    · exact allV_ok (runDepthTime_2_3 m n) t h
    · exact allV_ok (runDepthTime_2_4 m n) t h
  · rcases ht with h | h | h | h | h
    · exact allV_ok (runDepthTime_3_0 m n) t h
    · exact allV_ok (runDepthTime_3_1 m n) t h
    · exact allV_ok (runDepthTime_3_2 m n) t h
    · exact allV_ok (runDepthTime_3_3 m n) t h
    · exact allV_ok (runDepthTime_3_4 m n) t h
  · rcases ht with h | h | h | h | h
    · exact allV_ok (runDepthTime_4_0 m n) t h
    · exact allV_ok (runDepthTime_4_1 m n) t h
    · exact allV_ok (runDepthTime_4_2 m n) t h
    · exact allV_ok (runDepthTime_4_3 m n) t h
    · exact allV_ok (runDepthTime_4_4 m n) t h
  · rcases ht with h | h | h | h | h
    · exact allV_ok (runDepthTime_5_0 m n) t h
    · exact allV_ok (runDepthTime_5_1 m n) t h
    · exact allV_ok (runDepthTime_5_2 m n) t h
    · exact allV_ok (runDepthTime_5_3 m n) t h
    · exact allV_ok (runDepthTime_5_4 m n) t h
  · rcases ht with h | h | h | h | h
    · exact allV_ok (runDepthTime_6_0 m n) t h
    · exact allV_ok (runDepthTime_6_1 m n) t h
    · exact allV_ok (runDepthTime_6_2 m n) t h
    · exact allV_ok (runDepthTime_6_3 m n) t h
    · exact allV_ok (runDepthTime_6_4 m n) t h
  · rcases ht with h | h | h | h | h
    · exact allV_ok (runDepthTime_7_0 m n) t h
    · exact allV_ok (runDepthTime_7_1 m n) t h
    · exact allV_ok (runDepthTime_7_2 m n) t h
    · exact allV_ok (runDepthTime_7_3 m n) t h
    · exact allV_ok (runDepthTime_7_4 m n) t h
  · rcases ht with h | h | h | h | h
    · exact allV_ok (runDepthTime_8_0 m n) t h
    · exact allV_ok (runDepthTime_8_1 m n) t h
    · exact allV_ok (runDepthTime_8_2 m n) t h
    · exact allV_ok (runDepthTime_8_3 m n) t h
    · exact allV_ok (runDepthTime_8_4 m n) t h
end Tz
