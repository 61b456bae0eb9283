/- What Norm and Abs give, walked; on no condition. -/
import Derived.WalkKit
import Derived.KernelRfl
import Derived.Deep.QuietTactic
import Derived.BigQuiet
import Derived.Test.YtnnfledihhiaiaaGreatDoorProg
import Derived.Test.YtnnfledihhiaiaaGreatDoorZTab
set_option linter.unusedVariables false
set_option linter.unusedSimpArgs false
set_option linter.unusedSectionVars false
namespace Tz
open Go Go.Proofs Go.RowKit
theorem nan_read (s r : Nat) (hs : s < 2) (hr : r < 4503599627370495) : FloatKind.f64.format.read (s * 9223372036854775808 + 9218868437227405312 + 1 + r) = .nan (s == 1) (1 + r) := by
  have e1 : FloatKind.f64.format.signWeight = 9223372036854775808 := by decide +kernel
  have e2 : FloatKind.f64.format.binade = 4503599627370496 := by decide +kernel
  have e3 : FloatKind.f64.format.infRung = 9218868437227405312 := by decide +kernel
  have d : (s * 9223372036854775808 + 9218868437227405312 + 1 + r) / 9223372036854775808 = s := by omega
  have m : (s * 9223372036854775808 + 9218868437227405312 + 1 + r) % 9223372036854775808 = 9218868437227405312 + 1 + r := by omega
  unfold Ieee.Format.read
  rw [e1, e2, e3, d, m]
  have f1 : ¬ (9218868437227405312 + 1 + r < 4503599627370496) := by omega
  have f2 : ¬ (9218868437227405312 + 1 + r < 9218868437227405312) := by omega
  have f3 : ¬ (9218868437227405312 + 1 + r = 9218868437227405312) := by omega
  have f4 : 9218868437227405312 + 1 + r - 9218868437227405312 = 1 + r := by omega
  have f5 : s % 2 = s := by omega
  simp only [f1, f2, f3, f4, f5, if_false]
theorem run_nan (b : Nat) (h : FloatKind.f64.format.sub b b = none) (w : World) : ∃ q w1, (binOp .sub 27 (.float .f64 b) (.float .f64 b)).run Tryz.prog w = .ok (.float .f64 q) w1 ∧ Below w.heap.size w w1 ∧ ∀ c, FloatKind.f64.format.order q c = none := by
  refine ⟨Question.cut (.nanBits .f64 b b) (w.tape w.drawn (.nanBits .f64 b b)), { w with drawn := w.drawn + 1 }, ?_, ⟨rfl, rfl, rfl, Nat.le_refl _, fun _ _ => rfl⟩, ?_⟩
  · unfold binOp
    simp only [Op.floatArith, h]
    rfl
  · intro c
    unfold Ieee.Format.order
    show Ieee.Datum.order (FloatKind.f64.format.read (Question.cut (.nanBits .f64 b b) (w.tape w.drawn (.nanBits .f64 b b)))) _ = none
    have : Question.cut (.nanBits .f64 b b) (w.tape w.drawn (.nanBits .f64 b b)) = (w.tape w.drawn (.nanBits .f64 b b)) % 2 * 9223372036854775808 + 9218868437227405312 + 1 + (w.tape w.drawn (.nanBits .f64 b b)) / 2 % 4503599627370495 := rfl
    rw [this, nan_read _ _ (Nat.mod_lt _ (by decide)) (Nat.mod_lt _ (by decide))]
    cases FloatKind.f64.format.read c <;> rfl
theorem run_neq (q : Nat) (w1 : World) (hq : ∀ c, FloatKind.f64.format.order q c = none) : (binOp .neq 27 (.float .f64 q) (.float .f64 0)).run Tryz.prog w1 = .ok (.bool true) w1 := by
  unfold binOp
  simp only [Op.floatCmp, hq]
  rfl
set_option maxRecDepth 100000 in
theorem norm_nan (b : Nat) (h : FloatKind.f64.format.sub b b = none) (w : World) : Calls Tryz.prog 32 #[.float .f64 b] w fun e w' => e = .returned (.tuple #[.float .f64 0, .bool false]) ∧ Below w.heap.size w w' := by
  go_enter Tryz.func32, Tryz.ntmps32
  go_wp2
  obtain ⟨q, w1, hr, hb, hq⟩ := run_nan b h w
  rw [hr]
  go_wp2
  have hr2 := run_neq q w1 hq
  rw [hr2]
  go_wp2
  go_ret2
  exact ⟨rfl, hb⟩
end Tz
namespace Tz
open Go Go.Proofs Go.RowKit Ax
theorem call_bits (b : Nat) (w : World) : (callFunc 62 #[.float .f64 b]).run Tryz.prog w = .ok (.value (.int .u64 (b : Int))) w := by
  letI : Ax.Sy := { str := fun _ => [] }
  exact (isBits _ _).trans rfl
theorem call_from (b : Nat) (w : World) : (callFunc 228 #[.int .u64 (b : Int)]).run Tryz.prog w = .ok (.value (.float .f64 b)) w := by
  letI : Ax.Sy := { str := fun _ => [] }
  exact (isFrom _ _).trans rfl
theorem and_not (b : Nat) : bits .andNot .u64 (b : Int) 9223372036854775808 = ((b % 9223372036854775808 : Nat) : Int) := by
  show IntKind.wrap .u64 (((BitVec.ofInt 64 (b : Int) &&& ~~~ BitVec.ofInt 64 9223372036854775808)).toNat : Int) = _
  have e1 : ~~~ BitVec.ofInt 64 9223372036854775808 = 9223372036854775807#64 := by decide +kernel
  rw [e1, BitVec.ofInt_natCast, BitVec.toNat_and, BitVec.toNat_ofNat]
  have e2 : (9223372036854775807#64).toNat = 2 ^ 63 - 1 := by decide +kernel
  rw [e2, Nat.and_two_pow_sub_one_eq_mod]
  have e3 : b % 2 ^ 64 % 2 ^ 63 = b % 9223372036854775808 := by omega
  rw [e3]
  have e4 : b % 9223372036854775808 < 9223372036854775808 := Nat.mod_lt _ (by decide)
  generalize b % 9223372036854775808 = r at e4
  simp [IntKind.wrap, IntKind.bits, IntKind.signed]
  omega
set_option maxRecDepth 100000 in
theorem abs_law (b : Nat) (w : World) : Calls Tryz.prog 156 #[.float .f64 b] w fun e w' => e = .returned (.float .f64 (b % 9223372036854775808)) ∧ Below w.heap.size w w' := by
  go_enter Tryz.func156, Tryz.ntmps156
  go_wp2
  rw [call_bits]
  go_wp2
  rw [and_not, call_from]
  go_wp2
  go_ret
  exact ⟨rfl, Below.refl _ _⟩
end Tz
