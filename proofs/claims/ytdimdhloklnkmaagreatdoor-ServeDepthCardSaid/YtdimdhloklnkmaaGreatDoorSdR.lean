/- ServeDepth, run at every argument; on no condition. -/
import Derived.Test.YtdimdhloklnkmaaGreatDoorSdRa
import Derived.Test.YtdimdhloklnkmaaGreatDoorSdRb
import Derived.Test.YtdimdhloklnkmaaGreatDoorSdRc
import Derived.Test.YtdimdhloklnkmaaGreatDoorSdRd
import Derived.Test.YtdimdhloklnkmaaGreatDoorSdRe
set_option linter.unusedVariables false
set_option linter.unusedSimpArgs false
set_option linter.unusedSectionVars false
namespace Tz
open Go Ax
variable [Ax.Sy]
theorem runServeDepth (m n d : Int) (b0 : Bool) : isTrue (call (EG m (orcPush m)) 100000 5 [.sint .i64 n [(-9, n % 9)], .sint .i64 d [(-11, d % 11)], .bool b0] Hp.empty) = true := by
  rw [← callF_eq]
  have h0 : 0 ≤ n % 9 := Int.emod_nonneg n (by decide)
  have h1 : n % 9 < 9 := Int.emod_lt_of_pos n (by decide)
  generalize n % 9 = r at *
  have h2 : 0 ≤ d % 11 := Int.emod_nonneg d (by decide)
  have h3 : d % 11 < 11 := Int.emod_lt_of_pos d (by decide)
  generalize d % 11 = s at *
  obtain ⟨j, rfl⟩ : ∃ j : Nat, s = Int.ofNat j := ⟨s.toNat, by simp only [Int.ofNat_eq_natCast]; omega⟩
  simp only [Int.ofNat_eq_natCast] at h2 h3
  have hj : j < 11 := by omega
  rcases (by omega : r = 0 ∨ r = 1 ∨ r = 2 ∨ r = 3 ∨ r = 4 ∨ r = 5 ∨ r = 6 ∨ r = 7 ∨ r = 8) with rfl | rfl | rfl | rfl | rfl | rfl | rfl | rfl | rfl
  · cases b0
    · rcases (by omega : (0 ≤ j ∧ j < 3) ∨ (3 ≤ j ∧ j < 6) ∨ (6 ≤ j ∧ j < 9) ∨ (9 ≤ j ∧ j < 11)) with h | h | h | h
      · exact allN_ok (runServeDepth_0_0_0 m n d) j (by omega) (by omega)
      · exact allN_ok (runServeDepth_0_0_1 m n d) j (by omega) (by omega)
      · exact allN_ok (runServeDepth_0_0_2 m n d) j (by omega) (by omega)
      · exact allN_ok (runServeDepth_0_0_3 m n d) j (by omega) (by omega)

    · rcases (by omega : (0 ≤ j ∧ j < 3) ∨ (3 ≤ j ∧ j < 6) ∨ (6 ≤ j ∧ j < 9) ∨ (9 ≤ j ∧ j < 11)) with h | h | h | h
      · exact allN_ok (runServeDepth_0_1_0 m n d) j (by omega) (by omega)
      · exact allN_ok (runServeDepth_0_1_1 m n d) j (by omega) (by omega)
      · exact allN_ok (runServeDepth_0_1_2 m n d) j (by omega) (by omega)
      · exact allN_ok (runServeDepth_0_1_3 m n d) j (by omega) (by omega)

  · cases b0
    · rcases (by omega : (0 ≤ j ∧ j < 3) ∨ (3 ≤ j ∧ j < 6) ∨ (6 ≤ j ∧ j < 9) ∨ (9 ≤ j ∧ j < 11)) with h | h | h | h
      · exact allN_ok (runServeDepth_1_0_0 m n d) j (by omega) (by omega)
      · exact allN_ok (runServeDepth_1_0_1 m n d) j (by omega) (by omega)
      · exact allN_ok (runServeDepth_1_0_2 m n d) j (by omega) (by omega)
      · exact allN_ok (runServeDepth_1_0_3 m n d) j (by omega) (by omega)

    · rcases (by omega : (0 ≤ j ∧ j < 3) ∨ (3 ≤ j ∧ j < 6) ∨ (6 ≤ j ∧ j < 9) ∨ (9 ≤ j ∧ j < 11)) with h | h | h | h
      · exact allN_ok (runServeDepth_1_1_0 m n d) j (by omega) (by omega)
      · exact allN_ok (runServeDepth_1_1_1 m n d) j (by omega) (by omega)
      · exact allN_ok (runServeDepth_1_1_2 m n d) j (by omega) (by omega)
      · exact allN_ok (runServeDepth_1_1_3 m n d) j (by omega) (by omega)

  · cases b0
    · rcases (by omega : (0 ≤ j ∧ j < 3) ∨ (3 ≤ j ∧ j < 6) ∨ (6 ≤ j ∧ j < 9) ∨ (9 ≤ j ∧ j < 11)) with h | h | h | h
      · exact allN_ok (runServeDepth_2_0_0 m n d) j (by omega) (by omega)
      · exact allN_ok (runServeDepth_2_0_1 m n d) j (by omega) (by omega)
      · exact allN_ok (runServeDepth_2_0_2 m n d) j (by omega) (by omega)
      · exact allN_ok (runServeDepth_2_0_3 m n d) j (by omega) (by omega)

    · rcases (by omega : (0 ≤ j ∧ j < 3) ∨ (3 ≤ j ∧ j < 6) ∨ (6 ≤ j ∧ j < 9) ∨ (9 ≤ j ∧ j < 11)) with h | h | h | h
      · exact allN_ok (runServeDepth_2_1_0 m n d) j (by omega) (by omega)
      · exact allN_ok (runServeDepth_2_1_1 m n d) j (by omega) (by omega)
      · exact allN_ok (runServeDepth_2_1_2 m n d) j (by omega) (by omega)
      · exact allN_ok (runServeDepth_2_1_3 m n d) j (by omega) (by omega)

  · cases b0
    · rcases (by omega : (0 ≤ j ∧ j < 3) ∨ (3 ≤ j ∧ j < 6) ∨ (6 ≤ j ∧ j < 9) ∨ (9 ≤ j ∧ j < 11)) with h | h | h | h
      · exact allN_ok (runServeDepth_3_0_0 m n d) j (by omega) (by omega)
      · exact allN_ok (runServeDepth_3_0_1 m n d) j (by omega) (by omega)
      · exact allN_ok (runServeDepth_3_0_2 m n d) j (by omega) (by omega)
      · exact allN_ok (runServeDepth_3_0_3 m n d) j (by omega) (by omega)

    · rcases (by omega : (0 ≤ j ∧ j < 3) ∨ (3 ≤ j ∧ j < 6) ∨ (6 ≤ j ∧ j < 9) ∨ (9 ≤ j ∧ j < 11)) with h | h | h | h
      · exact allN_ok (runServeDepth_3_1_0 m n d) j (by omega) (by omega)
      · exact allN_ok (runServeDepth_3_1_1 m n d) j (by omega) (by omega)
      · exact allN_ok (runServeDepth_3_1_2 m n d) j (by omega) (by omega)
      · exact allN_ok (runServeDepth_3_1_3 m n d) j (by omega) (by omega)

  · cases b0
    · rcases (by omega : (0 ≤ j ∧ j < 3) ∨ (3 ≤ j ∧ j < 6) ∨ (6 ≤ j ∧ j < 9) ∨ (9 ≤ j ∧ j < 11)) with h | h | h | h
      · exact allN_ok (runServeDepth_4_0_0 m n d) j (by omega) (by omega)
      · exact allN_ok (runServeDepth_4_0_1 m n d) j (by omega) (by omega)
      · exact allN_ok (runServeDepth_4_0_2 m n d) j (by omega) (by omega)
      · exact allN_ok (runServeDepth_4_0_3 m n d) j (by omega) (by omega)

    · rcases (by omega : (0 ≤ j ∧ j < 3) ∨ (3 ≤ j ∧ j < 6) ∨ (6 ≤ j ∧ j < 9) ∨ (9 ≤ j ∧ j < 11)) with h | h | h | h
      · exact allN_ok (runServeDepth_4_1_0 m n d) j (by omega) (by omega)
      · exact allN_ok (runServeDepth_4_1_1 m n d) j (by omega) (by omega)
      · exact allN_ok (runServeDepth_4_1_2 m n d) j (by omega) (by omega)
      · exact allN_ok (runServeDepth_4_1_3 m n d) j (by omega) (by omega)

  · cases b0
    · rcases (by omega : (0 ≤ j ∧ j < 3) ∨ (3 ≤ j ∧ j < 6) ∨ (6 ≤ j ∧ j < 9) ∨ (9 ≤ j ∧ j < 11)) with h | h | h | h
      · exact allN_ok (runServeDepth_5_0_0 m n d) j (by omega) (by omega)
      · exact allN_ok (runServeDepth_5_0_1 m n d) j (by omega) (by omega)
      · exact allN_ok (runServeDepth_5_0_2 m n d) j (by omega) (by omega)
      · exact allN_ok (runServeDepth_5_0_3 m n d) j (by omega) (by omega)

    · rcases (by omega : (0 ≤ j ∧ j < 3) ∨ (3 ≤ j ∧ j < 6) ∨ (6 ≤ j ∧ j < 9) ∨ (9 ≤ j ∧ j < 11)) with h | h | h | h
      · exact allN_ok (runServeDepth_5_1_0 m n d) j (by omega) (by omega)
      · exact allN_ok (runServeDepth_5_1_1 m n d) j (by omega) (by omega)
      · exact allN_ok (runServeDepth_5_1_2 m n d) j (by omega) (by omega)
      · exact allN_ok (runServeDepth_5_1_3 m n d) j (by omega) (by omega)

  · cases b0
    · rcases (by omega : (0 ≤ j ∧ j < 3) ∨ (3 ≤ j ∧ j < 6) ∨ (6 ≤ j ∧ j < 9) ∨ (9 ≤ j ∧ j < 11)) with h | h | h | h
      · exact allN_ok (runServeDepth_6_0_0 m n d) j (by omega) (by omega)
      · exact allN_ok (runServeDepth_6_0_1 m n d) j (by omega) (by omega)
      · exact allN_ok (runServeDepth_6_0_2 m n d) j (by omega) (by omega)
      · exact allN_ok (runServeDepth_6_0_3 m n d) j (by omega) (by omega)

    · rcases (by omega : (0 ≤ j ∧ j < 3) ∨ (3 ≤ j ∧ j < 6) ∨ (6 ≤ j ∧ j < 9) ∨ (9 ≤ j ∧ j < 11)) with h | h | h | h
      · exact allN_ok (runServeDepth_6_1_0 m n d) j (by omega) (by omega)
      · exact allN_ok (runServeDepth_6_1_1 m n d) j (by omega) (by omega)
      · exact allN_ok (runServeDepth_6_1_2 m n d) j (by omega) (by omega)
      · exact allN_ok (runServeDepth_6_1_3 m n d) j (by omega) (by omega)

  · cases b0
    · rcases (by omega : (0 ≤ j ∧ j < 3) ∨ (3 ≤ j ∧ j < 6) ∨ (6 ≤ j ∧ j < 9) ∨ (9 ≤ j ∧ j < 11)) with h | h | h | h
      · exact allN_ok (runServeDepth_7_0_0 m n d) j (by omega) (by omega)
      · exact allN_ok (runServeDepth_7_0_1 m n d) j (by omega) (by omega)
      · exact allN_ok (runServeDepth_7_0_2 m n d) j (by omega) (by omega)
      · exact allN_ok (runServeDepth_7_0_3 m n d) j (by omega) (by omega)

    · rcases (by omega : (0 ≤ j ∧ j < 3) ∨ (3 ≤ j ∧ j < 6) ∨ (6 ≤ j ∧ j < 9) ∨ (9 ≤ j ∧ j < 11)) with h | h | h | h
      · exact allN_ok (runServeDepth_7_1_0 m n d) j (by omega) (by omega)
      · exact allN_ok (runServeDepth_7_1_1 m n d) j (by omega) (by omega)
      · exact allN_ok (runServeDepth_7_1_2 m n d) j (by omega) (by omega)
      · exact allN_ok (runServeDepth_7_1_3 m n d) j (by omega) (by omega)

  · cases b0
    · rcases (by omega : (0 ≤ j ∧ j < 3) ∨ (3 ≤ j ∧ j < 6) ∨ (6 ≤ j ∧ j < 9) ∨ (9 ≤ j ∧ j < 11)) with h | h | h | h
      · exact allN_ok (runServeDepth_8_0_0 m n d) j (by omega) (by omega)
      · exact allN_ok (runServeDepth_8_0_1 m n d) j (by omega) (by omega)
      · exact allN_ok (runServeDepth_8_0_2 m n d) j (by omega) (by omega)
      · exact allN_ok (runServeDepth_8_0_3 m n d) j (by omega) (by omega)

    · rcases (by omega : (0 ≤ j ∧ j < 3) ∨ (3 ≤ j ∧ j < 6) ∨ (6 ≤ j ∧ j < 9) ∨ (9 ≤ j ∧ j < 11)) with h | h | h | h
      · exact allN_ok (runServeDepth_8_1_0 m n d) j (by omega) (by omega)
      · exact allN_ok (runServeDepth_8_1_1 m n d) j (by omega) (by omega)
      · exact allN_ok (runServeDepth_8_1_2 m n d) j (by omega) (by omega)
      · exact allN_ok (runServeDepth_8_1_3 m n d) j (by omega) (by omega)

end Tz
