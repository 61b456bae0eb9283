/- A run of DiskFull at every number; on no condition. -/
import Derived.Test.YtffbpmmagoiooaaGreatDoorLift
import Derived.Test.YtffbpmmagoiooaaGreatDoorFullA
import Derived.Test.YtffbpmmagoiooaaGreatDoorFullB
import Derived.Test.YtffbpmmagoiooaaGreatDoorFullD
import Derived.Test.YtffbpmmagoiooaaGreatDoorFullE
set_option linter.unusedVariables false
set_option linter.unusedSimpArgs false
namespace Tz
open Go Ax
/-- A call that gives true in the empty heap gives it in any world that fits, and turns nothing that was there. -/
theorem args_below {E : Ax.Env} {ng fuel : Nat} {f : FuncId} {xs : List AV} {A : List Value} {w : World} (hc : CalOk E.P ng E.gl (call E fuel)) (ht : isTrue (call E fuel f xs Hp.empty) = true) (hA : gL (fun _ => none) xs = some A) (hR : Rel ng (glF E.gl) (fun _ => none) Hp.empty w) :
    Calls E.P f A.toArray w fun e w' => e = .returned (.bool true) ∧ RowKit.Below w.heap.size w w' := by
  obtain ⟨h', hcall⟩ := isTrue_ok ht
  have := hc f xs Hp.empty (by rw [hcall]; trivial) (fun _ => none) w A hA hR
  rw [hcall] at this
  refine this.mono fun e w' he => ?_
  cases e with
  | panicked ch => exact he.elim
  | outgrown => exact he.elim
  | returned Y =>
    obtain ⟨φ', hv', _, hS⟩ := he
    simp only [g, Option.some.injEq] at hv'; subst hv'
    refine ⟨rfl, ⟨hS.os, hS.tape, hS.output, hS.size, fun k hk => hS.block k hk ?_⟩⟩
    rintro ⟨id, o, L, h1, _⟩
    rw [Hp.get_empty] at h1; cases h1
end Tz
namespace Tz
open Go Ax
theorem runFull (m n : Int) : isTrue (call (EG m (orc13 m)) 100000 3 [.sint .i64 n [(8, n.tmod 8)]] Hp.empty) = true := by
  have h1 : n.tmod 8 < 8 := Int.tmod_lt_of_pos n (by decide)
  have h2 : -8 < n.tmod 8 := by
    have h3 := Int.natAbs_tmod n 8
    have h4 : n.natAbs % (8 : Int).natAbs < 8 := Nat.mod_lt _ (by decide)
    omega
  generalize n.tmod 8 = r at h1 h2
  rcases (by omega : r = -7 ∨ r = -6 ∨ r = -5 ∨ r = -4 ∨ r = -3 ∨ r = -2 ∨ r = -1 ∨ r = 0 ∨ r = 1 ∨ r = 2 ∨ r = 3 ∨ r = 4 ∨ r = 5 ∨ r = 6 ∨ r = 7) with rfl | rfl | rfl | rfl | rfl | rfl | rfl | rfl | rfl | rfl | rfl | rfl | rfl | rfl | rfl
  · exact runFullm7 m n
  · exact runFullm6 m n
  · exact runFullm5 m n
  · exact runFullm4 m n
  · exact runFullm3 m n
  · exact runFullm2 m n
  · exact runFullm1 m n
  · exact runFull0 m n
  · exact runFull1 m n
  · exact runFull2 m n
  · exact runFull3 m n
  · exact runFull4 m n
  · exact runFull5 m n
  · exact runFull6 m n
  · exact runFull7 m n
end Tz
