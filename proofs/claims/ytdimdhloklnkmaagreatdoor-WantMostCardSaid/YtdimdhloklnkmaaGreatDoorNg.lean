/- No function of the program starts a goroutine; on no condition. -/
import Derived.SevenTiedAt
import Derived.KernelRfl
import Derived.Test.YtdimdhloklnkmaaGreatDoorProg
set_option linter.unusedVariables false
set_option linter.unusedSimpArgs false
set_option linter.unusedSectionVars false
namespace Tz
open Go Go.Proofs
theorem goes_none {P : Program} (h : P.funcs.toList.any Func.goes = false) (f : FuncId) : P.goes f = false := by
  have h1 : ∀ (g : Nat) (fn : Func), P.funcs[g]? = some fn → fn.goes = false := by
    intro g fn hg
    have hm : fn ∈ P.funcs.toList := by
      have := Array.mem_of_getElem? hg
      simpa using this
    rw [List.any_eq_false] at h
    simpa using h fn hm
  unfold Program.goes
  rw [Bool.or_eq_false_iff]
  constructor
  · rw [List.any_eq_false]
    intro g _
    cases hg : P.funcs[g]? with
    | none => simp
    | some fn => simp [h1 g fn hg]
  · have : P.funcs.any Func.goes = false := by rw [← Array.any_toList]; exact h
    rw [this, Bool.and_false]
theorem goesBy_none {c : OpenClaim} {P : Program} (h : P.funcs.toList.any Func.goes = false) : false = c.goesBy P := by
  have h1 : ∀ f, P.goes f = false := goes_none h
  unfold OpenClaim.goesBy Program.goesAt Program.goesFrom
  symm
  rw [Bool.or_eq_false_iff]
  constructor
  · cases P.funcNamed c.func with
    | none => rfl
    | some f => exact h1 f
  · split
    · rfl
    · rw [List.any_eq_false]
      intro f _
      simp [h1 f]
set_option maxRecDepth 1000000 in
theorem noGo : Tryz.prog.funcs.toList.any Func.goes = false := by kernel_rfl
end Tz
