/- A float64 by how it stands to 0, 1, .., 8; on no condition. -/
import Derived.Test.YtnnfledihhiaiaaGreatDoorZAxC
set_option linter.unusedVariables false
set_option linter.unusedSimpArgs false
set_option linter.unusedSectionVars false
namespace Ax
open Go Ieee
theorem signed_shift (s : Bool) (m a k : Nat) : signed s m (a + k) = signed s m a * ((2 ^ k : Nat) : Int) := by
  unfold signed
  cases s
  · simp only [Bool.false_eq_true, if_false, Nat.shiftLeft_eq, Nat.pow_add]
    push_cast
    rw [Int.mul_assoc]
  · simp only [if_true, Nat.shiftLeft_eq, Nat.pow_add]
    push_cast
    rw [Int.neg_mul, Int.mul_assoc]
theorem cmp_mul (x y c : Int) (hc : 0 < c) : compare (x * c) (y * c) = compare x y := by
  have h1 : x * c < y * c ↔ x < y := ⟨fun h => Int.lt_of_mul_lt_mul_right h (Int.le_of_lt hc), fun h => Int.mul_lt_mul_of_pos_right h hc⟩
  have h2 : x * c = y * c ↔ x = y := ⟨fun h => Int.eq_of_mul_eq_mul_right (by omega) h, fun h => by rw [h]⟩
  show compareOfLessAndEq _ _ = compareOfLessAndEq _ _
  unfold compareOfLessAndEq
  simp only [h1, h2]
/-- What a number is, in the least units. -/
def fV (s : Bool) (m : Nat) (p : Int) : Int := signed s m (p + 1074).toNat
theorem order_num {x y : Nat} {s t : Bool} {m n : Nat} {i j : Int} (hx : FloatKind.f64.format.read x = .number s m i) (hy : FloatKind.f64.format.read y = .number t n j) (hi : -1074 ≤ i) (hj : -1074 ≤ j) :
    FloatKind.f64.format.order x y = some (compare (fV s m i) (fV t n j)) := by
  unfold Format.order
  rw [hx, hy]
  simp only [Datum.order, fV]
  congr 1
  have e1 : (i + 1074).toNat = (i - min i j).toNat + (min i j + 1074).toNat := by omega
  have e2 : (j + 1074).toNat = (j - min i j).toNat + (min i j + 1074).toNat := by omega
  rw [e1, e2, signed_shift, signed_shift, cmp_mul]
  exact Int.natCast_pos.2 (Nat.two_pow_pos _)
theorem ordB_lss (x y : Int) : ordB .lss (some (compare x y)) = some (decide (x < y)) := by
  show some (some (compareOfLessAndEq x y) == some Ordering.lt) = _
  unfold compareOfLessAndEq
  by_cases h : x < y
  · simp [h]
  · by_cases h2 : x = y
    · simp [h2]
    · simp [h, h2]
theorem ordB_gtr (x y : Int) : ordB .gtr (some (compare x y)) = some (decide (y < x)) := by
  show some (some (compareOfLessAndEq x y) == some Ordering.gt) = _
  unfold compareOfLessAndEq
  by_cases h : x < y
  · simp [h]; omega
  · by_cases h2 : x = y
    · simp [h2]
    · simp [h, h2]; omega
theorem ordB_geq (x y : Int) : ordB .geq (some (compare x y)) = some (decide (y ≤ x)) := by
  show some (some (compareOfLessAndEq x y) == some Ordering.gt || some (compareOfLessAndEq x y) == some Ordering.eq) = _
  unfold compareOfLessAndEq
  by_cases h : x < y
  · simp [h]
  · by_cases h2 : x = y
    · simp [h2]
    · simp [h, h2]; omega
theorem ordB_eql (x y : Int) : ordB .eql (some (compare x y)) = some (decide (x = y)) := by
  show some (some (compareOfLessAndEq x y) == some Ordering.eq) = _
  unfold compareOfLessAndEq
  by_cases h : x < y
  · have : ¬ x = y := by omega
    simp [h, this]
  · by_cases h2 : x = y
    · simp [h2]
    · simp [h, h2]
theorem ordB_neq (x y : Int) : ordB .neq (some (compare x y)) = some (decide (x ≠ y)) := by
  show some (some (compareOfLessAndEq x y) != some Ordering.eq) = _
  unfold compareOfLessAndEq
  by_cases h : x < y
  · have : ¬ x = y := by omega
    simp [h, this]
  · by_cases h2 : x = y
    · simp [h2]
    · simp [h, h2]

theorem e_sw : FloatKind.f64.format.signWeight = 9223372036854775808 := by decide +kernel
theorem e_bi : FloatKind.f64.format.binade = 4503599627370496 := by decide +kernel
theorem e_in : FloatKind.f64.format.infRung = 9218868437227405312 := by decide +kernel
theorem e_lp : FloatKind.f64.format.leastPlace = -1074 := by decide +kernel
def p2 (k : Nat) : Nat := 2 ^ k
theorem p2_le {a b : Nat} (h : a ≤ b) : p2 a ≤ p2 b := Nat.pow_le_pow_right (by decide) h
theorem p2_pos (k : Nat) : 0 < p2 k := Nat.two_pow_pos k
/-- The greatest, in the least units. -/
def vMax : Int := ((9007199254740991 * p2 2045 : Nat) : Int)
/-- A word: none; infinite; nought; or a number that is not nought. -/
theorem word_cases (b : Nat) (hb : b < 18446744073709551616) : (∃ s r, FloatKind.f64.format.read b = .nan s r) ∨ b = 9218868437227405312 ∨ b = 18442240474082181120 ∨ b = 0 ∨ b = 9223372036854775808 ∨
    ∃ s m p, FloatKind.f64.format.read b = .number s m p ∧ -1074 ≤ p ∧ fV s m p ≠ 0 ∧ -vMax ≤ fV s m p ∧ fV s m p ≤ vMax := by
  have hd : b / 9223372036854775808 % 2 = b / 9223372036854775808 := by omega
  have fin : ∀ (s : Bool) (m : Nat) (k : Nat), m ≠ 0 → m ≤ 9007199254740991 → k ≤ 2045 → fV s m (-1074 + (k : Int)) ≠ 0 ∧ -vMax ≤ fV s m (-1074 + (k : Int)) ∧ fV s m (-1074 + (k : Int)) ≤ vMax := by
    intro s m k h0 h1 h2
    have e : (-1074 + (k : Int) + 1074).toNat = k := by omega
    have hle : m * p2 k ≤ 9007199254740991 * p2 2045 := Nat.mul_le_mul h1 (p2_le h2)
    have hpos : 0 < m * p2 k := Nat.mul_pos (Nat.pos_of_ne_zero h0) (p2_pos k)
    have e3 : m <<< k = m * p2 k := Nat.shiftLeft_eq m k
    unfold fV vMax signed
    rw [e, e3]
    generalize m * p2 k = z at hle hpos
    generalize 9007199254740991 * p2 2045 = y at hle
    cases s
    · simp only [Bool.false_eq_true, if_false]; omega
    · simp only [if_true]; omega
  by_cases h1 : b % 9223372036854775808 < 4503599627370496
  · by_cases h0 : b % 9223372036854775808 = 0
    · have : b = 0 ∨ b = 9223372036854775808 := by omega
      rcases this with h | h
      · exact .inr (.inr (.inr (.inl h)))
      · exact .inr (.inr (.inr (.inr (.inl h))))
    · refine .inr (.inr (.inr (.inr (.inr ⟨b / 9223372036854775808 % 2 == 1, b % 9223372036854775808, -1074, ?_, ?_, ?_⟩))))
      · unfold Format.read
        rw [e_sw, e_bi, e_lp]
        simp only [h1, if_true]
      · omega
      · have := fin (b / 9223372036854775808 % 2 == 1) (b % 9223372036854775808) 0 h0 (by omega) (by omega)
        simpa using this
  · by_cases h2 : b % 9223372036854775808 < 9218868437227405312
    · refine .inr (.inr (.inr (.inr (.inr ⟨b / 9223372036854775808 % 2 == 1, 4503599627370496 + b % 9223372036854775808 % 4503599627370496, -1074 + ((b % 9223372036854775808 / 4503599627370496 - 1 : Nat) : Int), ?_, ?_, ?_⟩))))
      · unfold Format.read
        rw [e_sw, e_bi, e_in, e_lp]
        simp only [h1, h2, if_true, if_false]
      · omega
      · exact fin _ _ _ (by omega) (by omega) (by omega)
    · by_cases h3 : b % 9223372036854775808 = 9218868437227405312
      · have : b = 9218868437227405312 ∨ b = 18442240474082181120 := by omega
        rcases this with h | h
        · exact .inr (.inl h)
        · exact .inr (.inr (.inl h))
      · refine .inl ⟨b / 9223372036854775808 % 2 == 1, b % 9223372036854775808 - 9218868437227405312, ?_⟩
        unfold Format.read
        rw [e_sw, e_bi, e_in]
        simp only [h1, h2, h3, if_false]

/-- One, in the least units. -/
def fOne : Int := ((p2 1074 : Nat) : Int)
theorem fOne_pos : 0 < fOne := Int.natCast_pos.2 (p2_pos _)
theorem rd0 : FloatKind.f64.format.read 0 = .number false 0 (-1074) := by decide +kernel
theorem fv0 : fV false 0 (-1074) = 0 * fOne := by decide +kernel
theorem rd1 : FloatKind.f64.format.read 4607182418800017408 = .number false 4503599627370496 (-52) := by decide +kernel
theorem fv1 : fV false 4503599627370496 (-52) = 1 * fOne := by decide +kernel
theorem rd2 : FloatKind.f64.format.read 4611686018427387904 = .number false 4503599627370496 (-51) := by decide +kernel
theorem fv2 : fV false 4503599627370496 (-51) = 2 * fOne := by decide +kernel
theorem rd3 : FloatKind.f64.format.read 4613937818241073152 = .number false 6755399441055744 (-51) := by decide +kernel
theorem fv3 : fV false 6755399441055744 (-51) = 3 * fOne := by decide +kernel
theorem rd4 : FloatKind.f64.format.read 4616189618054758400 = .number false 4503599627370496 (-50) := by decide +kernel
theorem fv4 : fV false 4503599627370496 (-50) = 4 * fOne := by decide +kernel
theorem rd5 : FloatKind.f64.format.read 4617315517961601024 = .number false 5629499534213120 (-50) := by decide +kernel
theorem fv5 : fV false 5629499534213120 (-50) = 5 * fOne := by decide +kernel
theorem rd6 : FloatKind.f64.format.read 4618441417868443648 = .number false 6755399441055744 (-50) := by decide +kernel
theorem fv6 : fV false 6755399441055744 (-50) = 6 * fOne := by decide +kernel
theorem rd7 : FloatKind.f64.format.read 4619567317775286272 = .number false 7881299347898368 (-50) := by decide +kernel
theorem fv7 : fV false 7881299347898368 (-50) = 7 * fOne := by decide +kernel
theorem rd8 : FloatKind.f64.format.read 4620693217682128896 = .number false 4503599627370496 (-49) := by decide +kernel
theorem fv8 : fV false 4503599627370496 (-49) = 8 * fOne := by decide +kernel
theorem rdM : FloatKind.f64.format.read 9218868437227405311 = .number false 9007199254740991 971 := by decide +kernel
theorem fvM : fV false 9007199254740991 971 = vMax := by decide +kernel
theorem rdN : FloatKind.f64.format.read 18442240474082181119 = .number true 9007199254740991 971 := by decide +kernel
theorem fvN : fV true 9007199254740991 971 = -vMax := by decide +kernel
/-- What is known of a number that is not nought, of which so many of 0, 1, .., 8 are below it. -/
def fClass (j : Nat) : List (Nat × Nat × BinOp × Bool) := [(0, 0, .eql, false), (0, 0, .neq, true), (2, 0, .neq, false), (3, 0, .sub, true), (0, 9218868437227405311, .gtr, false), (0, 18442240474082181119, .lss, false),
  (1, 0, .lss, Nat.blt 0 j), (1, 0, .geq, !Nat.blt 0 j), (1, 4607182418800017408, .lss, Nat.blt 1 j), (1, 4607182418800017408, .geq, !Nat.blt 1 j), (1, 4611686018427387904, .lss, Nat.blt 2 j), (1, 4611686018427387904, .geq, !Nat.blt 2 j), (1, 4613937818241073152, .lss, Nat.blt 3 j), (1, 4613937818241073152, .geq, !Nat.blt 3 j), (1, 4616189618054758400, .lss, Nat.blt 4 j), (1, 4616189618054758400, .geq, !Nat.blt 4 j), (1, 4617315517961601024, .lss, Nat.blt 5 j), (1, 4617315517961601024, .geq, !Nat.blt 5 j), (1, 4618441417868443648, .lss, Nat.blt 6 j), (1, 4618441417868443648, .geq, !Nat.blt 6 j), (1, 4619567317775286272, .lss, Nat.blt 7 j), (1, 4619567317775286272, .geq, !Nat.blt 7 j), (1, 4620693217682128896, .lss, Nat.blt 8 j), (1, 4620693217682128896, .geq, !Nat.blt 8 j)]
theorem blt_dec (c j : Nat) : Nat.blt c j = decide (c < j) := by
  rw [Bool.eq_iff_iff]
  show Nat.ble (c + 1) j = true ↔ _
  rw [Nat.ble_eq, decide_eq_true_eq]; omega
theorem h_lss {b L c j : Nat} {x V : Int} (ho : FloatKind.f64.format.order L b = some (compare x V)) (hc : c < j ↔ x < V) : fHint1 b 1 L .lss (Nat.blt c j) = true := by
  simp only [fHint1, ho, ordB_lss, blt_dec, decide_eq_true_eq, Option.some.injEq, decide_eq_decide]
  exact hc.symm
theorem h_geq {b L c j : Nat} {x V : Int} (ho : FloatKind.f64.format.order L b = some (compare x V)) (hc : c < j ↔ x < V) : fHint1 b 1 L .geq (!Nat.blt c j) = true := by
  simp only [fHint1, ho, ordB_geq, blt_dec, decide_eq_true_eq, Option.some.injEq, ← decide_not, decide_eq_decide]
  rw [hc]; omega
theorem sub_self {b : Nat} {s : Bool} {m : Nat} {p : Int} (h : FloatKind.f64.format.read b = .number s m p) : FloatKind.f64.format.sub b b = some 0 := by
  unfold Format.sub
  rw [h]
  have e : signed s m (p - min p p).toNat + signed (!s) m (p - min p p).toNat = 0 := by
    unfold signed
    cases s <;> simp <;> omega
  simp only [Datum.opposite, Datum.sum, e, if_true, Option.map_some, Int.natAbs_zero]
  cases s <;> rfl
theorem fin_class {b : Nat} {s : Bool} {m : Nat} {p : Int} (hr : FloatKind.f64.format.read b = .number s m p) (hp : -1074 ≤ p) (h0 : fV s m p ≠ 0) (hlo : -vMax ≤ fV s m p) (hhi : fV s m p ≤ vMax) : ∃ j, j ≤ 9 ∧ fHintOk b (fClass j) = true := by
  have o0 := order_num rd0 hr (by decide) hp
  rw [fv0] at o0
  have o1 := order_num rd1 hr (by decide) hp
  rw [fv1] at o1
  have o2 := order_num rd2 hr (by decide) hp
  rw [fv2] at o2
  have o3 := order_num rd3 hr (by decide) hp
  rw [fv3] at o3
  have o4 := order_num rd4 hr (by decide) hp
  rw [fv4] at o4
  have o5 := order_num rd5 hr (by decide) hp
  rw [fv5] at o5
  have o6 := order_num rd6 hr (by decide) hp
  rw [fv6] at o6
  have o7 := order_num rd7 hr (by decide) hp
  rw [fv7] at o7
  have o8 := order_num rd8 hr (by decide) hp
  rw [fv8] at o8
  have oz := order_num hr rd0 hp (by decide)
  rw [fv0] at oz
  have os := order_num hr hr hp hp
  have oM := order_num hr rdM hp (by decide)
  rw [fvM] at oM
  have oN := order_num hr rdN hp (by decide)
  rw [fvN] at oN
  have hsub := sub_self hr
  have hB := fOne_pos
  generalize fV s m p = V at *
  generalize fOne = B at *
  have key : ∃ j : Nat, j ≤ 9 ∧ (0 < j ↔ 0 * B < V) ∧ (1 < j ↔ 1 * B < V) ∧ (2 < j ↔ 2 * B < V) ∧ (3 < j ↔ 3 * B < V) ∧ (4 < j ↔ 4 * B < V) ∧ (5 < j ↔ 5 * B < V) ∧ (6 < j ↔ 6 * B < V) ∧ (7 < j ↔ 7 * B < V) ∧ (8 < j ↔ 8 * B < V) := by
    rcases (by omega : V ≤ 0 ∨ (0 * B < V ∧ V ≤ 1 * B) ∨ (1 * B < V ∧ V ≤ 2 * B) ∨ (2 * B < V ∧ V ≤ 3 * B) ∨ (3 * B < V ∧ V ≤ 4 * B) ∨ (4 * B < V ∧ V ≤ 5 * B) ∨ (5 * B < V ∧ V ≤ 6 * B) ∨ (6 * B < V ∧ V ≤ 7 * B) ∨ (7 * B < V ∧ V ≤ 8 * B) ∨ 8 * B < V) with h | h | h | h | h | h | h | h | h | h
    · exact ⟨0, by decide, ⟨fun _ => by omega, fun _ => by omega⟩, ⟨fun _ => by omega, fun _ => by omega⟩, ⟨fun _ => by omega, fun _ => by omega⟩, ⟨fun _ => by omega, fun _ => by omega⟩, ⟨fun _ => by omega, fun _ => by omega⟩, ⟨fun _ => by omega, fun _ => by omega⟩, ⟨fun _ => by omega, fun _ => by omega⟩, ⟨fun _ => by omega, fun _ => by omega⟩, ⟨fun _ => by omega, fun _ => by omega⟩⟩
    · exact ⟨1, by decide, ⟨fun _ => by omega, fun _ => by omega⟩, ⟨fun _ => by omega, fun _ => by omega⟩, ⟨fun _ => by omega, fun _ => by omega⟩, ⟨fun _ => by omega, fun _ => by omega⟩, ⟨fun _ => by omega, fun _ => by omega⟩, ⟨fun _ => by omega, fun _ => by omega⟩, ⟨fun _ => by omega, fun _ => by omega⟩, ⟨fun _ => by omega, fun _ => by omega⟩, ⟨fun _ => by omega, fun _ => by omega⟩⟩
    · exact ⟨2, by decide, ⟨fun _ => by omega, fun _ => by omega⟩, ⟨fun _ => by omega, fun _ => by omega⟩, ⟨fun _ => by omega, fun _ => by omega⟩, ⟨fun _ => by omega, fun _ => by omega⟩, ⟨fun _ => by omega, fun _ => by omega⟩, ⟨fun _ => by omega, fun _ => by omega⟩, ⟨fun _ => by omega, fun _ => by omega⟩, ⟨fun _ => by omega, fun _ => by omega⟩, ⟨fun _ => by omega, fun _ => by omega⟩⟩
    · exact ⟨3, by decide, ⟨fun _ => by omega, fun _ => by omega⟩, ⟨fun _ => by omega, fun _ => by omega⟩, ⟨fun _ => by omega, fun _ => by omega⟩, ⟨fun _ => by omega, fun _ => by omega⟩, ⟨fun _ => by omega, fun _ => by omega⟩, ⟨fun _ => by omega, fun _ => by omega⟩, ⟨fun _ => by omega, fun _ => by omega⟩, ⟨fun _ => by omega, fun _ => by omega⟩, ⟨fun _ => by omega, fun _ => by omega⟩⟩
    · exact ⟨4, by decide, ⟨fun _ => by omega, fun _ => by omega⟩, ⟨fun _ => by omega, fun _ => by omega⟩, ⟨fun _ => by omega, fun _ => by omega⟩, ⟨fun _ => by omega, fun _ => by omega⟩, ⟨fun _ => by omega, fun _ => by omega⟩, ⟨fun _ => by omega, fun _ => by omega⟩, ⟨fun _ => by omega, fun _ => by omega⟩, ⟨fun _ => by omega, fun _ => by omega⟩, ⟨fun _ => by omega, fun _ => by omega⟩⟩
    · exact ⟨5, by decide, ⟨fun _ => by omega, fun _ => by omega⟩, ⟨fun _ => by omega, fun _ => by omega⟩, ⟨fun _ => by omega, fun _ => by omega⟩, ⟨fun _ => by omega, fun _ => by omega⟩, ⟨fun _ => by omega, fun _ => by omega⟩, ⟨fun _ => by omega, fun _ => by omega⟩, ⟨fun _ => by omega, fun _ => by omega⟩, ⟨fun _ => by omega, fun _ => by omega⟩, ⟨fun _ => by omega, fun _ => by omega⟩⟩
    · exact ⟨6, by decide, ⟨fun _ => by omega, fun _ => by omega⟩, ⟨fun _ => by omega, fun _ => by omega⟩, ⟨fun _ => by omega, fun _ => by omega⟩, ⟨fun _ => by omega, fun _ => by omega⟩, ⟨fun _ => by omega, fun _ => by omega⟩, ⟨fun _ => by omega, fun _ => by omega⟩, ⟨fun _ => by omega, fun _ => by omega⟩, ⟨fun _ => by omega, fun _ => by omega⟩, ⟨fun _ => by omega, fun _ => by omega⟩⟩
    · exact ⟨7, by decide, ⟨fun _ => by omega, fun _ => by omega⟩, ⟨fun _ => by omega, fun _ => by omega⟩, ⟨fun _ => by omega, fun _ => by omega⟩, ⟨fun _ => by omega, fun _ => by omega⟩, ⟨fun _ => by omega, fun _ => by omega⟩, ⟨fun _ => by omega, fun _ => by omega⟩, ⟨fun _ => by omega, fun _ => by omega⟩, ⟨fun _ => by omega, fun _ => by omega⟩, ⟨fun _ => by omega, fun _ => by omega⟩⟩
    · exact ⟨8, by decide, ⟨fun _ => by omega, fun _ => by omega⟩, ⟨fun _ => by omega, fun _ => by omega⟩, ⟨fun _ => by omega, fun _ => by omega⟩, ⟨fun _ => by omega, fun _ => by omega⟩, ⟨fun _ => by omega, fun _ => by omega⟩, ⟨fun _ => by omega, fun _ => by omega⟩, ⟨fun _ => by omega, fun _ => by omega⟩, ⟨fun _ => by omega, fun _ => by omega⟩, ⟨fun _ => by omega, fun _ => by omega⟩⟩
    · exact ⟨9, by decide, ⟨fun _ => by omega, fun _ => by omega⟩, ⟨fun _ => by omega, fun _ => by omega⟩, ⟨fun _ => by omega, fun _ => by omega⟩, ⟨fun _ => by omega, fun _ => by omega⟩, ⟨fun _ => by omega, fun _ => by omega⟩, ⟨fun _ => by omega, fun _ => by omega⟩, ⟨fun _ => by omega, fun _ => by omega⟩, ⟨fun _ => by omega, fun _ => by omega⟩, ⟨fun _ => by omega, fun _ => by omega⟩⟩
  obtain ⟨j, hj, c0, c1, c2, c3, c4, c5, c6, c7, c8⟩ := key
  refine ⟨j, hj, ?_⟩
  simp only [fClass, fHintOk, Bool.and_true, Bool.and_eq_true]
  refine ⟨?_, ?_, ?_, ?_, ?_, ?_, h_lss o0 c0, h_geq o0 c0, h_lss o1 c1, h_geq o1 c1, h_lss o2 c2, h_geq o2 c2, h_lss o3 c3, h_geq o3 c3, h_lss o4 c4, h_geq o4 c4, h_lss o5 c5, h_geq o5 c5, h_lss o6 c6, h_geq o6 c6, h_lss o7 c7, h_geq o7 c7, h_lss o8 c8, h_geq o8 c8⟩
  · simp only [fHint1, oz, ordB_eql, decide_eq_true_eq, Option.some.injEq, decide_eq_false_iff_not]; omega
  · simp only [fHint1, oz, ordB_neq, decide_eq_true_eq, Option.some.injEq]; omega
  · simp only [fHint1, os, ordB_neq, decide_eq_true_eq, Option.some.injEq, decide_eq_false_iff_not]; omega
  · simp only [fHint1, hsub, decide_eq_true_eq]
  · simp only [fHint1, oM, ordB_gtr, decide_eq_true_eq, Option.some.injEq, decide_eq_false_iff_not]; omega
  · simp only [fHint1, oN, ordB_lss, decide_eq_true_eq, Option.some.injEq, decide_eq_false_iff_not]; omega
/-- What is known of what is no number. -/
def fNan : List (Nat × Nat × BinOp × Bool) := [(0, 0, .eql, false), (0, 0, .neq, true), (2, 0, .neq, true)]
theorem nan_class {b : Nat} {s : Bool} {r : Nat} (hr : FloatKind.f64.format.read b = .nan s r) : fHintOk b fNan = true := by
  have o0 : ∀ c, FloatKind.f64.format.order b c = none := fun c => by unfold Format.order; rw [hr]; cases FloatKind.f64.format.read c <;> rfl
  simp only [fNan, fHintOk, fHint1, o0]
  rfl
/-- What is not as itself is no number. -/
theorem nan_sub {b c : Nat} (h : fHint1 b 2 c .neq true = true) : FloatKind.f64.format.sub b b = none := by
  simp only [fHint1, decide_eq_true_eq] at h
  cases hr : FloatKind.f64.format.read b with
  | nan s r => unfold Format.sub; rw [hr]; rfl
  | infinity s =>
    exfalso
    have : FloatKind.f64.format.order b b = some .eq := by unfold Format.order; rw [hr]; cases s <;> rfl
    rw [this] at h; cases h
  | number s m p =>
    exfalso
    have : FloatKind.f64.format.order b b = some .eq := by
      unfold Format.order; rw [hr]
      simp only [Datum.order]
      congr 1
      show compareOfLessAndEq _ _ = _
      unfold compareOfLessAndEq
      simp
    rw [this] at h; cases h
end Ax
