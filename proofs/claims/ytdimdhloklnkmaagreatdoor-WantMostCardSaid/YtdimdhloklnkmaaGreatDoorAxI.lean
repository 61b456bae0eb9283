/- An oracle chosen among many by a number; its conditions stand in the statement. -/
import Derived.Test.YtdimdhloklnkmaaGreatDoorAxH
set_option linter.unusedVariables false
set_option linter.unusedSimpArgs false
set_option linter.unusedSectionVars false
namespace Ax
open Go
variable [Sy]
noncomputable def nthO (l : List Oc) : Nat → Option Oc := List.rec (motive := fun _ => Nat → Option Oc) (fun _ => none) (fun o _ ih n => Nat.rec (motive := fun _ => Option Oc) (some o) (fun k _ => ih k) n) l
theorem nthO_mem : ∀ {l : List Oc} {n : Nat} {o : Oc}, nthO l n = some o → o ∈ l
  | [], _, _, h => by cases h
  | p :: l, 0, o, h => by
    have e : nthO (p :: l) 0 = some p := rfl
    rw [e] at h; simp only [Option.some.injEq] at h; subst h; exact List.mem_cons_self ..
  | p :: l, n + 1, o, h => by
    have e : nthO (p :: l) (n + 1) = nthO l n := rfl
    rw [e] at h
    exact List.mem_cons_of_mem _ (nthO_mem h)
noncomputable def oSel (key : List AV → Nat) (l : List Oc) : Oc := fun as h => match nthO l (key as) with
  | some o => o as h
  | none => none
section
variable {P : Program} {ng : Nat} {gl : T (List AV)} {f : FuncId}
theorem oSel_ok {key : List AV → Nat} {l : List Oc} (h : ∀ o ∈ l, OOk P ng gl f o) : OOk P ng gl f (oSel key l) := by
  intro as hp r hr hgd φ w A hA hR
  unfold oSel at hr
  split at hr
  · rename_i o ho
    exact h o (nthO_mem ho) as hp r hr hgd φ w A hA hR
  · cases hr
theorem all_nil : ∀ o ∈ ([] : List Oc), OOk P ng gl f o := fun o h => by cases h
theorem all_cons {o : Oc} {l : List Oc} (h : OOk P ng gl f o) (hl : ∀ o ∈ l, OOk P ng gl f o) : ∀ p ∈ o :: l, OOk P ng gl f p := by
  intro p hp
  rcases List.mem_cons.1 hp with rfl | hp
  · exact h
  · exact hl p hp
end
end Ax
