/- The evaluator at this program; on no condition. -/
import Derived.Test.YtdimdhloklnkmaaGreatDoorAxD
import Derived.KernelRfl
import Derived.Test.YtdimdhloklnkmaaGreatDoorRows
set_option linter.unusedVariables false
set_option linter.unusedSimpArgs false
set_option linter.unusedSectionVars false
namespace Tz
open Go Ax
variable [Ax.Sy]
noncomputable section

def codeL : Code → Code | .seq a _ => a | c => c
def codeR : Code → Code | .seq _ b => b | c => c
def bodyOf (f : Func) : Code := match f.body with | some c => c | none => .skip
def opsOf : Code → Array Oper | .region _ o _ => o | _ => #[]
def nilOp : Oper := { dst := none, op := .move (.tmp 0), type := 0, pos := "", after := #[], guard := none }
def gd : GD where
  fnG := Go.Proofs.Tryz.f236
  r0 := codeL (bodyOf Go.Proofs.Tryz.f236)
  id1 := 1
  o0 := (opsOf (codeL (codeR (bodyOf Go.Proofs.Tryz.f236)))).getD 0 nilOp
  o1 := (opsOf (codeL (codeR (bodyOf Go.Proofs.Tryz.f236)))).getD 1 nilOp
  t1 := 3
  rest := codeR (codeR (bodyOf Go.Proofs.Tryz.f236))
  G1 := 291
  fn1 := Go.Proofs.Tryz.f291
  id2 := 0
  q0 := (opsOf (codeL (bodyOf Go.Proofs.Tryz.f291))).getD 0 nilOp
  q1 := (opsOf (codeL (bodyOf Go.Proofs.Tryz.f291))).getD 1 nilOp
  tR := 4
  tA := 1
  rest2 := codeR (bodyOf Go.Proofs.Tryz.f291)
set_option maxRecDepth 100000 in
theorem gd_ok : gd.Ok Go.Proofs.Tryz.prog 236 := ⟨Go.Proofs.Tryz.func236, rfl, ⟨rfl, rfl, rfl⟩, Go.Proofs.Tryz.func291, by kernel_rfl, rfl, rfl, ⟨by decide, by decide⟩, ⟨rfl, rfl, rfl⟩, ⟨rfl, rfl, rfl⟩⟩

theorem mixed : Go.Proofs.Tryz.prog.follows .mixedOrders = true := by kernel_rfl

def litA : Lit → AV
  | .int k n => .int k n
  | .bool b => .bool b
  | _ => .tup []
def flatD (f : Nat) : DataW Unit → List AV := Nat.rec (motive := fun _ => DataW Unit → List AV) (fun _ => []) (fun _ ih d => match d with
  | .lit l => [litA l]
  | .agg ps => ps.flatMap ih
  | _ => []) f
/-- The program's own variables that a run reads: the tables; and the runtime's MaxLen, whatever it holds. -/
def gls (m : Int) : T (List AV) := (((((T.nil.put (some (flatD 4 Go.Proofs.YtdimdhloklnkmaaGreatDoor.Rows.laid_internal_strconv_uint64pow10)) (Ps.key 4)).put (some (flatD 4 Go.Proofs.YtdimdhloklnkmaaGreatDoor.Rows.laid_math_bits_deBruijn32tab)) (Ps.key 5)).put (some (flatD 4 Go.Proofs.YtdimdhloklnkmaaGreatDoor.Rows.laid_math_bits_deBruijn64tab)) (Ps.key 6)).put (some (flatD 4 Go.Proofs.YtdimdhloklnkmaaGreatDoor.Rows.laid_unicode_utf8_first)) (Ps.key 7)).put (some [.int .i64 m]) (Ps.key 1))

def xs : T Ext := ((((T.nil.put (some xBits) (Ps.key 63)).put (some xFrom) (Ps.key 162)).put (some xIdxB) (Ps.key 329)).put (some xClone) (Ps.key 382)).put (some xCount) (Ps.key 409)

theorem isBits : Is Go.Proofs.Tryz.prog 63 Extern.MathFloatBits.float64bits := fun A w => run_callFunc_extern Go.Proofs.Tryz.func63 (by kernel_rfl) (by kernel_rfl) (by kernel_rfl) (by kernel_rfl) A w
theorem isFrom : Is Go.Proofs.Tryz.prog 162 Extern.MathFloatBits.float64frombits := fun A w => run_callFunc_extern Go.Proofs.Tryz.func162 (by kernel_rfl) (by kernel_rfl) (by kernel_rfl) (by kernel_rfl) A w
theorem isIdxB : Is Go.Proofs.Tryz.prog 329 Extern.BytealgIndexByte.indexByte := fun A w => run_callFunc_extern Go.Proofs.Tryz.func329 (by kernel_rfl) (by kernel_rfl) (by kernel_rfl) (by kernel_rfl) A w
theorem isClone : Is Go.Proofs.Tryz.prog 382 Extern.MapsClone.clone := fun A w => run_callFunc_extern Go.Proofs.Tryz.func382 (by kernel_rfl) (by kernel_rfl) (by kernel_rfl) (by kernel_rfl) A w

theorem isCount : Is Go.Proofs.Tryz.prog 409 Extern.BytealgCount.count := fun A w => run_callFunc_extern Go.Proofs.Tryz.func409 (by kernel_rfl) (by kernel_rfl) (by kernel_rfl) (by kernel_rfl) A w

theorem xs_ok (ng : Nat) (gl : T (List AV)) : ExtOk Go.Proofs.Tryz.prog ng gl (fun f => xs.get (Ps.key f)) :=
  extOk_put (extOk_put (extOk_put (extOk_put (extOk_put extOk_nil (xBits_ok isBits)) (xFrom_ok isFrom)) (xIdxB_ok isIdxB)) (xClone_ok isClone)) (xCount_ok isCount)

/-- Is it true? -/
def isTrue : CR → Bool
  | .ret (.bool b) _ => b
  | _ => false
theorem isTrue_ok {r : CR} (h : isTrue r = true) : ∃ h', r = .ret (.bool true) h' := by
  cases r with
  | ret v h' => cases v <;> simp [isTrue] at h; subst h; exact ⟨_, rfl⟩
  | _ => cases h

def plainL : List AV → Bool
  | [] => true
  | .int _ _ :: l => plainL l
  | .bool _ :: l => plainL l
  | _ :: _ => false
theorem plainL_ok : ∀ {cs : List AV}, plainL cs = true → ∃ xs, gL (fun _ => none) cs = some xs
  | [], _ => ⟨[], rfl⟩
  | x :: l, h => by
    cases x with
    | int k n => obtain ⟨xs, hx⟩ := plainL_ok (cs := l) h; exact ⟨.int k n :: xs, by simp only [gL, g, hx, Option.bind_some, Option.map_some]⟩
    | bool b => obtain ⟨xs, hx⟩ := plainL_ok (cs := l) h; exact ⟨.bool b :: xs, by simp only [gL, g, hx, Option.bind_some, Option.map_some]⟩
    | _ => cases h
theorem plain_put {t : T (List AV)} {n : Nat} {cs : List AV} (ht : Plain t) (h : plainL cs = true) : Plain (t.put (some cs) (Ps.key n)) := by
  intro k ds hk
  simp only [glF, T.get_put] at hk
  split at hk
  · simp only [Option.some.injEq] at hk; subst hk; exact plainL_ok h
  · exact ht k ds hk
theorem plain_nil : Plain .nil := fun n cs h => by simp only [glF, T.get_nil] at h; cases h
theorem plain (m : Int) : Plain (gls m) :=
  plain_put (plain_put (plain_put (plain_put (plain_put plain_nil (by kernel_rfl)) (by kernel_rfl)) (by kernel_rfl)) (by kernel_rfl)) rfl
end
end Tz
