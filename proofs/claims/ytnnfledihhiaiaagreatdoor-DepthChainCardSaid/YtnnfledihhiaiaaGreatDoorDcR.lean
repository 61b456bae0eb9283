/- A run of DepthChain at every number; on no condition. -/
import Derived.Test.YtnnfledihhiaiaaGreatDoorDcA
import Derived.Test.YtnnfledihhiaiaaGreatDoorDcB
import Derived.Test.YtnnfledihhiaiaaGreatDoorDcD
import Derived.Test.YtnnfledihhiaiaaGreatDoorDcE
set_option linter.unusedVariables false
set_option linter.unusedSimpArgs false
set_option linter.unusedSectionVars false
namespace Tz
open Go Ax
variable [Ax.Sy]
theorem runDepthChain (m n d : Int) : isTrue (call (EG m (orcChain m)) 100000 5 [.sint .i64 n [(-9, n % 9)], .sint .i64 d [(-11, d % 11)]] Hp.empty) = true := by
  rw [← callF_eq]
  have h0 : 0 ≤ n % 9 := Int.emod_nonneg n (by decide)
  have h1 : n % 9 < 9 := Int.emod_lt_of_pos n (by decide)
  generalize n % 9 = r at *
  have h2 : 0 ≤ d % 11 := Int.emod_nonneg d (by decide)
  have h3 : d % 11 < 11 := Int.emod_lt_of_pos d (by decide)
  generalize d % 11 = s at *
  obtain ⟨j, rfl⟩ : ∃ j : Nat, s = Int.ofNat j := ⟨s.toNat, by simp only [Int.ofNat_eq_natCast]; omega⟩
  simp only [Int.ofNat_eq_natCast] at h2 h3
  have hj : j < 11 := by omega
  rcases (by omega : r = 0 ∨ r = 1 ∨ r = 2 ∨ r = 3 ∨ r = 4 ∨ r = 5 ∨ r = 6 ∨ r = 7 ∨ r = 8) with rfl | rfl | rfl | rfl | rfl | rfl | rfl | rfl | rfl
  · rcases (by omega : (0 ≤ j ∧ j < 3) ∨ (3 ≤ j ∧ j < 6) ∨ (6 ≤ j ∧ j < 9) ∨ (9 ≤ j ∧ j < 11)) with h | h | h | h
    · exact allN_ok (runDepthChain_0_0_0 m n d) j (by omega) (by omega)
    · exact allN_ok (runDepthChain_0_0_1 m n d) j (by omega) (by omega)
    · exact allN_ok (runDepthChain_0_0_2 m n d) j (by omega) (by omega)
    · exact allN_ok (runDepthChain_0_0_3 m n d) j (by omega) (by omega)

  · rcases (by omega : (0 ≤ j ∧ j < 3) ∨ (3 ≤ j ∧ j < 6) ∨ (6 ≤ j ∧ j < 9) ∨ (9 ≤ j ∧ j < 11)) with h | h | h | h
    · exact allN_ok (runDepthChain_1_0_0 m n d) j (by omega) (by omega)
    · exact allN_ok (runDepthChain_1_0_1 m n d) j (by omega) (by omega)
    · exact allN_ok (runDepthChain_1_0_2 m n d) j (by omega) (by omega)
    · exact allN_ok (runDepthChain_1_0_3 m n d) j (by omega) (by omega)

  · rcases (by omega : (0 ≤ j ∧ j < 3) ∨ (3 ≤ j ∧ j < 6) ∨ (6 ≤ j ∧ j < 9) ∨ (9 ≤ j ∧ j < 11)) with h | h | h | h
    · exact allN_ok (runDepthChain_2_0_0 m n d) j (by omega) (by omega)
    · exact allN_ok (runDepthChain_2_0_1 m n d) j (by omega) (by omega)
    · exact allN_ok (runDepthChain_2_0_2 m n d) j (by omega) (by omega)
    · exact allN_ok (runDepthChain_2_0_3 m n d) j (by omega) (by omega)

  · rcases (by omega : (0 ≤ j ∧ j < 3) ∨ (3 ≤ j ∧ j < 6) ∨ (6 ≤ j ∧ j < 9) ∨ (9 ≤ j ∧ j < 11)) with h | h | h | h
    · exact allN_ok (runDepthChain_3_0_0 m n d) j (by omega) (by omega)
    · exact allN_ok (runDepthChain_3_0_1 m n d) j (by omega) (by omega)
    · exact allN_ok (runDepthChain_3_0_2 m n d) j (by omega) (by omega)
    · exact allN_ok (runDepthChain_3_0_3 m n d) j (by omega) (by omega)

  · rcases (by omega : (0 ≤ j ∧ j < 3) ∨ (3 ≤ j ∧ j < 6) ∨ (6 ≤ j ∧ j < 9) ∨ (9 ≤ j ∧ j < 11)) with h | h | h | h
    · exact allN_ok (runDepthChain_4_0_0 m n d) j (by omega) (by omega)
    · exact allN_ok (runDepthChain_4_0_1 m n d) j (by omega) (by omega)
    · exact allN_ok (runDepthChain_4_0_2 m n d) j (by omega) (by omega)
    · exact allN_ok (runDepthChain_4_0_3 m n d) j (by omega) (by omega)

  · rcases (by omega : (0 ≤ j ∧ j < 3) ∨ (3 ≤ j ∧ j < 6) ∨ (6 ≤ j ∧ j < 9) ∨ (9 ≤ j ∧ j < 11)) with h | h | h | h
    · exact allN_ok (runDepthChain_5_0_0 m n d) j (by omega) (by omega)
    · exact allN_ok (runDepthChain_5_0_1 m n d) j (by omega) (by omega)
    · exact allN_ok (runDepthChain_5_0_2 m n d) j (by omega) (by omega)
    · exact allN_ok (runDepthChain_5_0_3 m n d) j (by omega) (by omega)

  · rcases (by omega : (0 ≤ j ∧ j < 3) ∨ (3 ≤ j ∧ j < 6) ∨ (6 ≤ j ∧ j < 9) ∨ (9 ≤ j ∧ j < 11)) with h | h | h | h
    · exact allN_ok (runDepthChain_6_0_0 m n d) j (by omega) (by omega)
    · exact allN_ok (runDepthChain_6_0_1 m n d) j (by omega) (by omega)
    · exact allN_ok (runDepthChain_6_0_2 m n d) j (by omega) (by omega)
    · exact allN_ok (runDepthChain_6_0_3 m n d) j (by omega) (by omega)

  · rcases (by omega : (0 ≤ j ∧ j < 3) ∨ (3 ≤ j ∧ j < 6) ∨ (6 ≤ j ∧ j < 9) ∨ (9 ≤ j ∧ j < 11)) with h | h | h | h
    · exact allN_ok (runDepthChain_7_0_0 m n d) j (by omega) (by omega)
    · exact allN_ok (runDepthChain_7_0_1 m n d) j (by omega) (by omega)
    · exact allN_ok (runDepthChain_7_0_2 m n d) j (by omega) (by omega)
    · exact allN_ok (runDepthChain_7_0_3 m n d) j (by omega) (by omega)

  · rcases (by omega : (0 ≤ j ∧ j < 3) ∨ (3 ≤ j ∧ j < 6) ∨ (6 ≤ j ∧ j < 9) ∨ (9 ≤ j ∧ j < 11)) with h | h | h | h
    · exact allN_ok (runDepthChain_8_0_0 m n d) j (by omega) (by omega)
    · exact allN_ok (runDepthChain_8_0_1 m n d) j (by omega) (by omega)
    · exact allN_ok (runDepthChain_8_0_2 m n d) j (by omega) (by omega)
    · exact allN_ok (runDepthChain_8_0_3 m n d) j (by omega) (by omega)

end Tz
