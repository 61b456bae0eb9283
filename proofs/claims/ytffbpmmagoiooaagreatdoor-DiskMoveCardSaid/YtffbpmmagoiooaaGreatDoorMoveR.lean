/- Runs of DiskMove over unknown texts; on no condition. -/
import Derived.Test.YtffbpmmagoiooaaGreatDoorLift
import Derived.Test.YtffbpmmagoiooaaGreatDoorMoveT
import Derived.Test.YtffbpmmagoiooaaGreatDoorBegc
set_option linter.unusedVariables false
set_option linter.unusedSimpArgs false
set_option linter.unusedSectionVars false
namespace Tz
open Go Ax
variable [Ax.Sy]
/-- A call that gives true in the empty heap gives it in any world that fits, and turns nothing that was there. -/
theorem args_below {E : Ax.Env} {ng fuel : Nat} {f : FuncId} {xs : List AV} {A : List Value} {w : World} (hc : CalOk E.P ng E.gl (call E fuel)) (ht : isTrue (call E fuel f xs Hp.empty) = true) (hA : gL (fun _ => none) xs = some A) (hR : Rel ng (glF E.gl) (fun _ => none) Hp.empty w) :
    Calls E.P f A.toArray w fun e w' => e = .returned (.bool true) ∧ RowKit.Below w.heap.size w w' := by
  obtain ⟨h', hcall⟩ := isTrue_ok ht
  have := hc f xs Hp.empty (by rw [hcall]; trivial) (fun _ => none) w A hA hR
  rw [hcall] at this
  refine this.mono fun e w' he => ?_
  cases e with
  | panicked ch => exact he.elim
  | outgrown => exact he.elim
  | returned Y =>
    obtain ⟨φ', hv', _, hS⟩ := he
    simp only [g, Option.some.injEq] at hv'; subst hv'
    refine ⟨rfl, ⟨hS.os, hS.tape, hS.output, hS.size, fun k hk => hS.block k hk ?_⟩⟩
    rintro ⟨id, o, L, h1, _⟩
    rw [Hp.get_empty] at h1; cases h1
end Tz
namespace Tz
open Go Ax
variable [Ax.Sy]
noncomputable section
/-- Text(s, 30) of the unknown text i < 2 is the unknown text i + 10. -/
def oText : Oc
  | [.tstr i, .int .i64 (.ofNat n)], h => bif Nat.blt i 2 && Nat.beq n 30 then some (.ret (.tstr (i + 10)) h) else none
  | _, _ => none
theorem text_ok (m : Int) (ng : Nat) (hT : ∀ i, i < 2 → Sy.str (i + 10) = (Sy.str i).take 30) : OOk Go.Proofs.Tryz.prog ng (gls m) 20 oText := by
  intro vs h r hr _ φ w A hA hR
  unfold oText at hr
  split at hr
  · rename_i i n
    rw [Bool.cond_eq_ite] at hr
    split at hr
    · rename_i hc
      simp only [Bool.and_eq_true, Nat.beq_eq, Nat.blt_eq] at hc
      obtain ⟨hi, rfl⟩ := hc
      simp only [Option.some.injEq] at hr; subst hr
      simp only [gL, g, Option.bind_some, Option.map_some, Option.some.injEq] at hA
      subst hA
      have hs : (⟨(Sy.str i).toArray⟩ : ByteArray).size = (Sy.str i).length := by show (Sy.str i).toArray.size = _; simp
      by_cases hl : (Sy.str i).length ≤ 30
      · refine (text_short ⟨(Sy.str i).toArray⟩ w (by omega)).mono fun e w' he => ?_
        refine post_below hR he.1 (below_eq he.2) ?_
        simp only [g, hT i hi, List.take_of_length_le hl]
      · refine (text_long ⟨(Sy.str i).toArray⟩ w (by omega)).mono fun e w' he => ?_
        refine post_below hR he.1 (below_eq he.2) ?_
        simp only [g, hT i hi]
        rw [str_extract, List.drop_zero]
    · cases hr
  · cases hr

def orcM (m : Int) : T Oc := (orc13 m).put (some oText) (Ps.key 20)
theorem orcM_ok (m : Int) (ng : Nat) (hT : ∀ i, i < 2 → Sy.str (i + 10) = (Sy.str i).take 30) : OrcsOk Go.Proofs.Tryz.prog ng (gls m) (orcM m) := orcs_put (orc13_ok m ng) (text_ok m ng hT)
set_option maxRecDepth 1000000 in
theorem runMove0 (m : Int) (n : Nat) : isTrue (call (EG m (orcM m)) 100000 4 [.tstr 0, .tstr 1, .sbit n [false]] Hp.empty) = true := by kernel_rfl
set_option maxRecDepth 1000000 in
theorem runMove1 (m : Int) (n : Nat) : isTrue (call (EG m (orcM m)) 100000 4 [.tstr 0, .tstr 1, .sbit n [true]] Hp.empty) = true := by kernel_rfl
end
end Tz
