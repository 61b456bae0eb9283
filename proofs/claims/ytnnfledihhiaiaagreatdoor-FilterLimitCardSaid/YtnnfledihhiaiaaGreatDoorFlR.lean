/- A run of FilterLimit at every number; on no condition. -/
import Derived.Test.YtnnfledihhiaiaaGreatDoorFlA
import Derived.Test.YtnnfledihhiaiaaGreatDoorFlB
import Derived.Test.YtnnfledihhiaiaaGreatDoorFlD
import Derived.Test.YtnnfledihhiaiaaGreatDoorFlE
import Derived.Test.YtnnfledihhiaiaaGreatDoorFlG
set_option linter.unusedVariables false
set_option linter.unusedSimpArgs false
set_option linter.unusedSectionVars false
namespace Tz
open Go Ax
variable [Ax.Sy]
theorem runFilterLimit (m n d : Int) (b0 : Bool) : isTrue (call (EG m (orc15 m)) 100000 9 [.sint .i64 n [(-50, n % 50)], .sint .i64 d [(-50, d % 50)], .bool b0] Hp.empty) = true := by
  rw [← callF_eq]
  have h0 : 0 ≤ n % 50 := Int.emod_nonneg n (by decide)
  have h1 : n % 50 < 50 := Int.emod_lt_of_pos n (by decide)
  generalize n % 50 = r at *
  have h2 : 0 ≤ d % 50 := Int.emod_nonneg d (by decide)
  have h3 : d % 50 < 50 := Int.emod_lt_of_pos d (by decide)
  generalize d % 50 = s at *
  obtain ⟨j, rfl⟩ : ∃ j : Nat, s = Int.ofNat j := ⟨s.toNat, by simp only [Int.ofNat_eq_natCast]; omega⟩
  simp only [Int.ofNat_eq_natCast] at h2 h3
  have hj : j < 50 := by omega
  rcases (by omega : r = 0 ∨ r = 1 ∨ r = 2 ∨ r = 3 ∨ r = 4 ∨ r = 5 ∨ r = 6 ∨ r = 7 ∨ r = 8 ∨ r = 9 ∨ r = 10 ∨ r = 11 ∨ r = 12 ∨ r = 13 ∨ r = 14 ∨ r = 15 ∨ r = 16 ∨ r = 17 ∨ r = 18 ∨ r = 19 ∨ r = 20 ∨ r = 21 ∨ r = 22 ∨ r = 23 ∨ r = 24 ∨ r = 25 ∨ r = 26 ∨ r = 27 ∨ r = 28 ∨ r = 29 ∨ r = 30 ∨ r = 31 ∨ r = 32 ∨ r = 33 ∨ r = 34 ∨ r = 35 ∨ r = 36 ∨ r = 37 ∨ r = 38 ∨ r = 39 ∨ r = 40 ∨ r = 41 ∨ r = 42 ∨ r = 43 ∨ r = 44 ∨ r = 45 ∨ r = 46 ∨ r = 47 ∨ r = 48 ∨ r = 49) with rfl | rfl | rfl | rfl | rfl | rfl | rfl | rfl | rfl | rfl | rfl | rfl | rfl | rfl | rfl | rfl | rfl | rfl | rfl | rfl | rfl | rfl | rfl | rfl | rfl | rfl | rfl | rfl | rfl | rfl | rfl | rfl | rfl | rfl | rfl | rfl | rfl | rfl | rfl | rfl | rfl | rfl | rfl | rfl | rfl | rfl | rfl | rfl | rfl | rfl
  · cases b0
    · exact allN_ok (runFilterLimit_0_0_0 m n d) j (by omega) (by omega)
    · exact allN_ok (runFilterLimit_0_1_0 m n d) j (by omega) (by omega)
  · cases b0
    · exact allN_ok (runFilterLimit_1_0_0 m n d) j (by omega) (by omega)
    · exact allN_ok (runFilterLimit_1_1_0 m n d) j (by omega) (by omega)
  · cases b0
    · exact allN_ok (runFilterLimit_2_0_0 m n d) j (by omega) (by omega)
    · exact allN_ok (runFilterLimit_2_1_0 m n d) j (by omega) (by omega)
  · cases b0
    · exact allN_ok (runFilterLimit_3_0_0 m n d) j (by omega) (by omega)
    · exact allN_ok (runFilterLimit_3_1_0 m n d) j (by omega) (by omega)
  · cases b0
    · exact allN_ok (runFilterLimit_4_0_0 m n d) j (by omega) (by omega)
    · exact allN_ok (runFilterLimit_4_1_0 m n d) j (by omega) (by omega)
  · cases b0
    · exact allN_ok (runFilterLimit_5_0_0 m n d) j (by omega) (by omega)
    · exact allN_ok (runFilterLimit_5_1_0 m n d) j (by omega) (by omega)
  · cases b0
    · exact allN_ok (runFilterLimit_6_0_0 m n d) j (by omega) (by omega)
    · exact allN_ok (runFilterLimit_6_1_0 m n d) j (by omega) (by omega)
  · cases b0
    · exact allN_ok (runFilterLimit_7_0_0 m n d) j (by omega) (by omega)
    · exact allN_ok (runFilterLimit_7_1_0 m n d) j (by omega) (by omega)
  · cases b0
    · exact allN_ok (runFilterLimit_8_0_0 m n d) j (by omega) (by omega)
    · exact allN_ok (runFilterLimit_8_1_0 m n d) j (by omega) (by omega)
  · cases b0
    · exact allN_ok (runFilterLimit_9_0_0 m n d) j (by omega) (by omega)
    · exact allN_ok (runFilterLimit_9_1_0 m n d) j (by omega) (by omega)
  · cases b0
    · exact allN_ok (runFilterLimit_10_0_0 m n d) j (by omega) (by omega)
    · exact allN_ok (runFilterLimit_10_1_0 m n d) j (by omega) (by omega)
  · cases b0
    · exact allN_ok (runFilterLimit_11_0_0 m n d) j (by omega) (by omega)
    · exact allN_ok (runFilterLimit_11_1_0 m n d) j (by omega) (by omega)
  · cases b0
    · exact allN_ok (runFilterLimit_12_0_0 m n d) j (by omega) (by omega)
    · exact allN_ok (runFilterLimit_12_1_0 m n d) j (by omega) (by omega)
  · cases b0
    · exact allN_ok (runFilterLimit_13_0_0 m n d) j (by omega) (by omega)
    · exact allN_ok (runFilterLimit_13_1_0 m n d) j (by omega) (by omega)
  · cases b0
    · exact allN_ok (runFilterLimit_14_0_0 m n d) j (by omega) (by omega)
    · exact allN_ok (runFilterLimit_14_1_0 m n d) j (by omega) (by omega)
  · cases b0
    · exact allN_ok (runFilterLimit_15_0_0 m n d) j (by omega) (by omega)
    · exact allN_ok (runFilterLimit_15_1_0 m n d) j (by omega) (by omega)
  · cases b0
    · exact allN_ok (runFilterLimit_16_0_0 m n d) j (by omega) (by omega)
    · exact allN_ok (runFilterLimit_16_1_0 m n d) j (by omega) (by omega)
  · cases b0
    · exact allN_ok (runFilterLimit_17_0_0 m n d) j (by omega) (by omega)
    · exact allN_ok (runFilterLimit_17_1_0 m n d) j (by omega) (by omega)
  · cases b0
    · exact allN_ok (runFilterLimit_18_0_0 m n d) j (by omega) (by omega)
    · exact allN_ok (runFilterLimit_18_1_0 m n d) j (by omega) (by omega)
  · cases b0
    · exact allN_ok (runFilterLimit_19_0_0 m n d) j (by omega) (by omega)
    · exact allN_ok (runFilterLimit_19_1_0 m n d) j (by omega) (by omega)
  · cases b0
    · exact allN_ok (runFilterLimit_20_0_0 m n d) j (by omega) (by omega)
    · exact allN_ok (runFilterLimit_20_1_0 m n d) j (by omega) (by omega)
  · cases b0
    · exact allN_ok (runFilterLimit_21_0_0 m n d) j (by omega) (by omega)
    · exact allN_ok (runFilterLimit_21_1_0 m n d) j (by omega) (by omega)
  · cases b0
    · exact allN_ok (runFilterLimit_22_0_0 m n d) j (by omega) (by omega)
    · exact allN_ok (runFilterLimit_22_1_0 m n d) j (by omega) (by omega)
  · cases b0
    · exact allN_ok (runFilterLimit_23_0_0 m n d) j (by omega) (by omega)
    · exact allN_ok (runFilterLimit_23_1_0 m n d) j (by omega) (by omega)
  · cases b0
    · exact allN_ok (runFilterLimit_24_0_0 m n d) j (by omega) (by omega)
    · exact allN_ok (runFilterLimit_24_1_0 m n d) j (by omega) (by omega)
  · cases b0
    · exact allN_ok (runFilterLimit_25_0_0 m n d) j (by omega) (by omega)
    · exact allN_ok (runFilterLimit_25_1_0 m n d) j (by omega) (by omega)
  · cases b0
    · exact allN_ok (runFilterLimit_26_0_0 m n d) j (by omega) (by omega)
    · exact allN_ok (runFilterLimit_26_1_0 m n d) j (by omega) (by omega)
  · cases b0
    · exact allN_ok (runFilterLimit_27_0_0 m n d) j (by omega) (by omega)
    · exact allN_ok (runFilterLimit_27_1_0 m n d) j (by omega) (by omega)
  · cases b0
    · exact allN_ok (runFilterLimit_28_0_0 m n d) j (by omega) (by omega)
    · exact allN_ok (runFilterLimit_28_1_0 m n d) j (by omega) (by omega)
  · cases b0
    · exact allN_ok (runFilterLimit_29_0_0 m n d) j (by omega) (by omega)
    · exact allN_ok (runFilterLimit_29_1_0 m n d) j (by omega) (by omega)
  · cases b0
    · exact allN_ok (runFilterLimit_30_0_0 m n d) j (by omega) (by omega)
    · exact allN_ok (runFilterLimit_30_1_0 m n d) j (by omega) (by omega)
  · cases b0
    · exact allN_ok (runFilterLimit_31_0_0 m n d) j (by omega) (by omega)
    · exact allN_ok (runFilterLimit_31_1_0 m n d) j (by omega) (by omega)
  · cases b0
    · exact allN_ok (runFilterLimit_32_0_0 m n d) j (by omega) (by omega)
    · exact allN_ok (runFilterLimit_32_1_0 m n d) j (by omega) (by omega)
  · cases b0
    · exact allN_ok (runFilterLimit_33_0_0 m n d) j (by omega) (by omega)
    · exact allN_ok (runFilterLimit_33_1_0 m n d) j (by omega) (by omega)
  · cases b0
    · exact allN_ok (runFilterLimit_34_0_0 m n d) j (by omega) (by omega)
    · exact allN_ok (runFilterLimit_34_1_0 m n d) j (by omega) (by omega)
  · cases b0
    · exact allN_ok (runFilterLimit_35_0_0 m n d) j (by omega) (by omega)
    · exact allN_ok (runFilterLimit_35_1_0 m n d) j (by omega) (by omega)
  · cases b0
    · exact allN_ok (runFilterLimit_36_0_0 m n d) j (by omega) (by omega)
    · exact allN_ok (runFilterLimit_36_1_0 m n d) j (by omega) (by omega)
  · cases b0
    · exact allN_ok (runFilterLimit_37_0_0 m n d) j (by omega) (by omega)
    · exact allN_ok (runFilterLimit_37_1_0 m n d) j (by omega) (by omega)
  · cases b0
    · exact allN_ok (runFilterLimit_38_0_0 m n d) j (by omega) (by omega)
    · exact allN_ok (runFilterLimit_38_1_0 m n d) j (by omega) (by omega)
  · cases b0
    · exact allN_ok (runFilterLimit_39_0_0 m n d) j (by omega) (by omega)
    · exact allN_ok (runFilterLimit_39_1_0 m n d) j (by omega) (by omega)
  · cases b0
    · exact allN_ok (runFilterLimit_40_0_0 m n d) j (by omega) (by omega)
    · exact allN_ok (runFilterLimit_40_1_0 m n d) j (by omega) (by omega)
  · cases b0
    · exact allN_ok (runFilterLimit_41_0_0 m n d) j (by omega) (by omega)
    · exact allN_ok (runFilterLimit_41_1_0 m n d) j (by omega) (by omega)
  · cases b0
    · exact allN_ok (runFilterLimit_42_0_0 m n d) j (by omega) (by omega)
    · exact allN_ok (runFilterLimit_42_1_0 m n d) j (by omega) (by omega)
  · cases b0
    · exact allN_ok (runFilterLimit_43_0_0 m n d) j (by omega) (by omega)
    · exact allN_ok (runFilterLimit_43_1_0 m n d) j (by omega) (by omega)
  · cases b0
    · exact allN_ok (runFilterLimit_44_0_0 m n d) j (by omega) (by omega)
    · exact allN_ok (runFilterLimit_44_1_0 m n d) j (by omega) (by omega)
  · cases b0
    · exact allN_ok (runFilterLimit_45_0_0 m n d) j (by omega) (by omega)
    · exact allN_ok (runFilterLimit_45_1_0 m n d) j (by omega) (by omega)
  · cases b0
    · exact allN_ok (runFilterLimit_46_0_0 m n d) j (by omega) (by omega)
    · exact allN_ok (runFilterLimit_46_1_0 m n d) j (by omega) (by omega)
  · cases b0
    · exact allN_ok (runFilterLimit_47_0_0 m n d) j (by omega) (by omega)
    · exact allN_ok (runFilterLimit_47_1_0 m n d) j (by omega) (by omega)
  · cases b0
    · exact allN_ok (runFilterLimit_48_0_0 m n d) j (by omega) (by omega)
    · exact allN_ok (runFilterLimit_48_1_0 m n d) j (by omega) (by omega)
  · cases b0
    · exact allN_ok (runFilterLimit_49_0_0 m n d) j (by omega) (by omega)
    · exact allN_ok (runFilterLimit_49_1_0 m n d) j (by omega) (by omega)
end Tz
