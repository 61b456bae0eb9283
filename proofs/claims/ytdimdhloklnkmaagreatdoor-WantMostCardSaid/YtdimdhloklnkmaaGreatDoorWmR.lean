/- WantMost, run at every argument; on no condition. -/
import Derived.Test.YtdimdhloklnkmaaGreatDoorWmRa
import Derived.Test.YtdimdhloklnkmaaGreatDoorWmRb
import Derived.Test.YtdimdhloklnkmaaGreatDoorWmRc
import Derived.Test.YtdimdhloklnkmaaGreatDoorWmRd
set_option linter.unusedVariables false
set_option linter.unusedSimpArgs false
set_option linter.unusedSectionVars false
namespace Tz
open Go Ax
variable [Ax.Sy]
theorem runWantMost (m n d : Int) : isTrue (call (EG m (orcWb m)) 100000 4 [.sint .i64 n [(-5, n % 5)], .sint .i64 d [(-6, d % 6)]] Hp.empty) = true := by
  rw [← callF_eq]
  have h0 : 0 ≤ n % 5 := Int.emod_nonneg n (by decide)
  have h1 : n % 5 < 5 := Int.emod_lt_of_pos n (by decide)
  generalize n % 5 = r at *
  have h2 : 0 ≤ d % 6 := Int.emod_nonneg d (by decide)
  have h3 : d % 6 < 6 := Int.emod_lt_of_pos d (by decide)
  generalize d % 6 = s at *
  obtain ⟨j, rfl⟩ : ∃ j : Nat, s = Int.ofNat j := ⟨s.toNat, by simp only [Int.ofNat_eq_natCast]; omega⟩
  simp only [Int.ofNat_eq_natCast] at h2 h3
  have hj : j < 6 := by omega
  rcases (by omega : r = 0 ∨ r = 1 ∨ r = 2 ∨ r = 3 ∨ r = 4) with rfl | rfl | rfl | rfl | rfl
  · rcases (by omega : (0 ≤ j ∧ j < 1) ∨ (1 ≤ j ∧ j < 2) ∨ (2 ≤ j ∧ j < 3) ∨ (3 ≤ j ∧ j < 4) ∨ (4 ≤ j ∧ j < 5) ∨ (5 ≤ j ∧ j < 6)) with h | h | h | h | h | h
    · exact allN_ok (runWantMost_0_0_0 m n d) j (by omega) (by omega)
    · exact allN_ok (runWantMost_0_0_1 m n d) j (by omega) (by omega)
    · exact allN_ok (runWantMost_0_0_2 m n d) j (by omega) (by omega)
    · exact allN_ok (runWantMost_0_0_3 m n d) j (by omega) (by omega)
    · exact allN_ok (runWantMost_0_0_4 m n d) j (by omega) (by omega)
    · exact allN_ok (runWantMost_0_0_5 m n d) j (by omega) (by omega)

  · rcases (by omega : (0 ≤ j ∧ j < 1) ∨ (1 ≤ j ∧ j < 2) ∨ (2 ≤ j ∧ j < 3) ∨ (3 ≤ j ∧ j < 4) ∨ (4 ≤ j ∧ j < 5) ∨ (5 ≤ j ∧ j < 6)) with h | h | h | h | h | h
    · exact allN_ok (runWantMost_1_0_0 m n d) j (by omega) (by omega)
    · exact allN_ok (runWantMost_1_0_1 m n d) j (by omega) (by omega)
    · exact allN_ok (runWantMost_1_0_2 m n d) j (by omega) (by omega)
    · exact allN_ok (runWantMost_1_0_3 m n d) j (by omega) (by omega)
    · exact allN_ok (runWantMost_1_0_4 m n d) j (by omega) (by omega)
    · exact allN_ok (runWantMost_1_0_5 m n d) j (by omega) (by omega)

  · rcases (by omega : (0 ≤ j ∧ j < 1) ∨ (1 ≤ j ∧ j < 2) ∨ (2 ≤ j ∧ j < 3) ∨ (3 ≤ j ∧ j < 4) ∨ (4 ≤ j ∧ j < 5) ∨ (5 ≤ j ∧ j < 6)) with h | h | h | h | h | h
    · exact allN_ok (runWantMost_2_0_0 m n d) j (by omega) (by omega)
    · exact allN_ok (runWantMost_2_0_1 m n d) j (by omega) (by omega)
    · exact allN_ok (runWantMost_2_0_2 m n d) j (by omega) (by omega)
    · exact allN_ok (runWantMost_2_0_3 m n d) j (by omega) (by omega)
    · exact allN_ok (runWantMost_2_0_4 m n d) j (by omega) (by omega)
    · exact allN_ok (runWantMost_2_0_5 m n d) j (by omega) (by omega)

  · rcases (by omega : (0 ≤ j ∧ j < 1) ∨ (1 ≤ j ∧ j < 2) ∨ (2 ≤ j ∧ j < 3) ∨ (3 ≤ j ∧ j < 4) ∨ (4 ≤ j ∧ j < 5) ∨ (5 ≤ j ∧ j < 6)) with h | h | h | h | h | h
    · exact allN_ok (runWantMost_3_0_0 m n d) j (by omega) (by omega)
    · exact allN_ok (runWantMost_3_0_1 m n d) j (by omega) (by omega)
    · exact allN_ok (runWantMost_3_0_2 m n d) j (by omega) (by omega)
    · exact allN_ok (runWantMost_3_0_3 m n d) j (by omega) (by omega)
    · exact allN_ok (runWantMost_3_0_4 m n d) j (by omega) (by omega)
    · exact allN_ok (runWantMost_3_0_5 m n d) j (by omega) (by omega)

  · rcases (by omega : (0 ≤ j ∧ j < 1) ∨ (1 ≤ j ∧ j < 2) ∨ (2 ≤ j ∧ j < 3) ∨ (3 ≤ j ∧ j < 4) ∨ (4 ≤ j ∧ j < 5) ∨ (5 ≤ j ∧ j < 6)) with h | h | h | h | h | h
    · exact allN_ok (runWantMost_4_0_0 m n d) j (by omega) (by omega)
    · exact allN_ok (runWantMost_4_0_1 m n d) j (by omega) (by omega)
    · exact allN_ok (runWantMost_4_0_2 m n d) j (by omega) (by omega)
    · exact allN_ok (runWantMost_4_0_3 m n d) j (by omega) (by omega)
    · exact allN_ok (runWantMost_4_0_4 m n d) j (by omega) (by omega)
    · exact allN_ok (runWantMost_4_0_5 m n d) j (by omega) (by omega)

end Tz
