/- Names of two bytes, and the request, in short terms; on no condition. -/
import Derived.Test.YtdimdhloklnkmaaGreatDoorBegg
import Derived.Test.YtdimdhloklnkmaaGreatDoorAxI
set_option linter.unusedVariables false
set_option linter.unusedSimpArgs false
set_option linter.unusedSectionVars false
namespace Tz
open Go Ax
variable [Ax.Sy]
noncomputable section
def wmId (a b : Nat) : AV := .agg [u8 a, u8 b, u8 0, u8 0, u8 0, u8 0, u8 0, u8 0, u8 0, u8 0, u8 0, u8 0, u8 0, u8 0, u8 0, u8 0, u8 0, u8 0, u8 0, u8 0, u8 0, u8 0, u8 0, u8 0, u8 0, u8 0, u8 0, u8 0, u8 0, u8 0, u8 0, u8 0]
def wmKeyH (zs : List AV) : Nat := match zs with
  | [.agg (.int _ (.ofNat a) :: .int _ (.ofNat b) :: _)] => Nat.add (Nat.mul (Nat.sub a 1) 6) (Nat.div b 8)
  | _ => 1000
def wmDig (x : Nat) : Nat := bif Nat.blt x 58 then Nat.sub x 48 else Nat.sub x 87
def wmKeyG (zs : List AV) : Nat := match zs with
  | [.str (.pk _ v)] => Nat.add (Nat.mul (Nat.sub (Nat.mod (Nat.div v 256) 256) 49) 6) (Nat.add (Nat.mul 2 (wmDig (Nat.mod (Nat.div v 65536) 256))) (bif Nat.blt (wmDig (Nat.mod (Nat.div v 16777216) 256)) 8 then 0 else 1))
  | _ => 1000
/-- The bytes of so many names {a, 0}, {a, 1}, .. -/
def wmRow (a n : Nat) : Nat := Nat.rec (motive := fun _ => Nat) 0 (fun i ih => Nat.add ih (Nat.mul (Nat.add a (Nat.mul 256 i)) (Nat.pow 2 (Nat.mul 256 i)))) n
def wmHx (x : Nat) : Nat := bif Nat.blt x 10 then Nat.add x 48 else Nat.add x 87
/-- The name {a, i} as a text. -/
def wmHex (a i : Nat) : BS := .pk 64 (Nat.add (Nat.add 48 (Nat.mul 256 (Nat.add 48 a))) (Nat.add (Nat.add (Nat.mul 65536 (wmHx (Nat.div i 16))) (Nat.mul 16777216 (wmHx (Nat.mod i 16)))) (Nat.mul 4294967296 587623256530069125907124184431654834023265532736935746044076604164775856719014704963822325282539665159496834093441246662672560127866030175301680)))
def wmLines (w : BS) (a n : Nat) : BS := Nat.rec (motive := fun _ => BS) (.pk 0 0) (fun i ih => ih.app (w.app (wmHex a i))) n
/-- The request. -/
def wmS (n m : Nat) : BS := (BS.pk 9 1925627848062567198768).app ((wmLines (.pk 9 598685560679232188464) 1 n).app ((wmLines (.pk 9 597606948504052445232) 2 m).app (.pk 12 14913536477109860501703110704)))
end
end Tz
