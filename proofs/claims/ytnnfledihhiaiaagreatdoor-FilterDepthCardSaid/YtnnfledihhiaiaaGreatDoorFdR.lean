/- A run of FilterDepth at every number; on no condition. -/
import Derived.Test.YtnnfledihhiaiaaGreatDoorFdA
import Derived.Test.YtnnfledihhiaiaaGreatDoorFdB
import Derived.Test.YtnnfledihhiaiaaGreatDoorFdD
set_option linter.unusedVariables false
set_option linter.unusedSimpArgs false
set_option linter.unusedSectionVars false
namespace Tz
open Go Ax
variable [Ax.Sy]
theorem runFilterDepth (m n d : Int) : isTrue (call (EG m (orcDeep m)) 100000 8 [.sint .i64 n [(-7, n % 7)], .sint .i64 d [(-9, d % 9)]] Hp.empty) = true := by
  rw [← callF_eq]
  have h0 : 0 ≤ n % 7 := Int.emod_nonneg n (by decide)
  have h1 : n % 7 < 7 := Int.emod_lt_of_pos n (by decide)
  generalize n % 7 = r at *
  have h2 : 0 ≤ d % 9 := Int.emod_nonneg d (by decide)
  have h3 : d % 9 < 9 := Int.emod_lt_of_pos d (by decide)
  generalize d % 9 = s at *
  obtain ⟨j, rfl⟩ : ∃ j : Nat, s = Int.ofNat j := ⟨s.toNat, by simp only [Int.ofNat_eq_natCast]; omega⟩
  simp only [Int.ofNat_eq_natCast] at h2 h3
  have hj : j < 9 := by omega
  rcases (by omega : r = 0 ∨ r = 1 ∨ r = 2 ∨ r = 3 ∨ r = 4 ∨ r = 5 ∨ r = 6) with rfl | rfl | rfl | rfl | rfl | rfl | rfl
  · rcases (by omega : (0 ≤ j ∧ j < 3) ∨ (3 ≤ j ∧ j < 6) ∨ (6 ≤ j ∧ j < 9)) with h | h | h
    · exact allN_ok (runFilterDepth_0_0_0 m n d) j (by omega) (by omega)
    · exact allN_ok (runFilterDepth_0_0_1 m n d) j (by omega) (by omega)
    · exact allN_ok (runFilterDepth_0_0_2 m n d) j (by omega) (by omega)

  · rcases (by omega : (0 ≤ j ∧ j < 3) ∨ (3 ≤ j ∧ j < 6) ∨ (6 ≤ j ∧ j < 9)) with h | h | h
    · exact allN_ok (runFilterDepth_1_0_0 m n d) j (by omega) (by omega)
    · exact allN_ok (runFilterDepth_1_0_1 m n d) j (by omega) (by omega)
    · exact allN_ok (runFilterDepth_1_0_2 m n d) j (by omega) (by omega)

  · rcases (by omega : (0 ≤ j ∧ j < 3) ∨ (3 ≤ j ∧ j < 6) ∨ (6 ≤ j ∧ j < 9)) with h | h | h
    · exact allN_ok (runFilterDepth_2_0_0 m n d) j (by omega) (by omega)
    · exact allN_ok (runFilterDepth_2_0_1 m n d) j (by omega) (by omega)
    · exact allN_ok (runFilterDepth_2_0_2 m n d) j (by omega) (by omega)

  · rcases (by omega : (0 ≤ j ∧ j < 3) ∨ (3 ≤ j ∧ j < 6) ∨ (6 ≤ j ∧ j < 9)) with h | h | h
    · exact allN_ok (runFilterDepth_3_0_0 m n d) j (by omega) (by omega)
    · exact allN_ok (runFilterDepth_3_0_1 m n d) j (by omega) (by omega)
    · exact allN_ok (runFilterDepth_3_0_2 m n d) j (by omega) (by omega)

  · rcases (by omega : (0 ≤ j ∧ j < 3) ∨ (3 ≤ j ∧ j < 6) ∨ (6 ≤ j ∧ j < 9)) with h | h | h
    · exact allN_ok (runFilterDepth_4_0_0 m n d) j (by omega) (by omega)
    · exact allN_ok (runFilterDepth_4_0_1 m n d) j (by omega) (by omega)
    · exact allN_ok (runFilterDepth_4_0_2 m n d) j (by omega) (by omega)

  · rcases (by omega : (0 ≤ j ∧ j < 3) ∨ (3 ≤ j ∧ j < 6) ∨ (6 ≤ j ∧ j < 9)) with h | h | h
    · exact allN_ok (runFilterDepth_5_0_0 m n d) j (by omega) (by omega)
    · exact allN_ok (runFilterDepth_5_0_1 m n d) j (by omega) (by omega)
    · exact allN_ok (runFilterDepth_5_0_2 m n d) j (by omega) (by omega)

  · rcases (by omega : (0 ≤ j ∧ j < 3) ∨ (3 ≤ j ∧ j < 6) ∨ (6 ≤ j ∧ j < 9)) with h | h | h
    · exact allN_ok (runFilterDepth_6_0_0 m n d) j (by omega) (by omega)
    · exact allN_ok (runFilterDepth_6_0_1 m n d) j (by omega) (by omega)
    · exact allN_ok (runFilterDepth_6_0_2 m n d) j (by omega) (by omega)

end Tz
