/- A builder of texts checks its own address, and tells its text, walked; the conditions stand in each statement. -/
import Derived.Test.YtdimdhloklnkmaaGreatDoorAxH
import Derived.WalkKit
import Derived.KernelRfl
import Derived.Deep.QuietTactic
import Derived.BigQuiet
import Derived.Lib.UnsafeStr
import Derived.Lib.Builder
import Derived.Shelf.Strings.Builder1
import Derived.Test.YtdimdhloklnkmaaGreatDoorProg
import Derived.Test.YtdimdhloklnkmaaGreatDoorBege
set_option linter.unusedVariables false
set_option linter.unusedSimpArgs false
set_option linter.unusedSectionVars false
namespace Tz
open Go Go.Proofs Go.RowKit Ax
theorem bld_u : Tryz.prog.underlying 99 = some (.pointer 101) := by kernel_rfl
theorem bld_p : Tryz.prog.underlying 238 = some .unsafePointer := by kernel_rfl
theorem bld_j : (Tryz.prog.info? 101).map (·.size) = some 2 := by kernel_rfl
theorem bld_mixed : Tryz.prog.follows .mixedOrders = true := by kernel_rfl
theorem bld_lies : liesAt Tryz.prog Tryz.prog.depth 101 (2 / Tryz.prog.cellsOf 101) 0 101 1 = true := by kernel_rfl
theorem bld_ptr : Tryz.prog.underlying 177 = some (.pointer 5) := by kernel_rfl
theorem bld_one : Tryz.prog.cellsOf 5 = 1 := by kernel_rfl

set_option maxHeartbeats 1000000 in
set_option maxRecDepth 100000 in
theorem chk_law : ChkLaw Tryz.prog 111 101 where
  used := by
    intro b w h0
    obtain ⟨j, hj, hjs⟩ := Option.map_eq_some_iff.1 bld_j
    go_enter Tryz.func111, Tryz.ntmps111
    go_wp2
    rw [Lib.run_neq_ptr_same w _ bld_u hj]
    go_wp2
    go_end0
    exact ⟨rfl, rfl⟩
  fresh := by
    intro b w h0 hsh hfz
    obtain ⟨j, hj, hjs⟩ := Option.map_eq_some_iff.1 bld_j
    go_enter Tryz.func111, Tryz.ntmps111
    go_wp2
    rw [Lib.run_to_unsafe w ⟨b, 0, none⟩ bld_u bld_p hj (by rw [hjs]; decide) hsh (Nat.zero_lt_succ 1)]
    simp only [Result.andThen]
    rw [Oper.upon_value]
    go_wp2
    rw [run_callFunc_extern Tryz.func180 (by kernel_rfl) (by kernel_rfl) (by kernel_rfl) (e := Extern.AbiNoEscape.same) (by kernel_rfl)]
    rw [Lib.run_noEscape]
    simp only [Result.andThen]
    rw [Oper.upon_value]
    go_wp2
    rw [Lib.run_from_unsafe w ⟨b, 0, none⟩ bld_p bld_u hj hsh bld_lies]
    simp only [Result.andThen]
    rw [Oper.upon_value]
    go_wp2
    go_end0
    exact ⟨rfl, rfl⟩

/-- In a row of bytes, n of them lie side by side from anywhere. -/
theorem lies_off {P : Program} {e : TypeId} (hc : P.cellsOf e = 1) (count o n : Nat) (hn : o + n ≤ count) (h1 : 1 ≤ n) : liesAt P P.depth e count o e n = true := by
  have hd : P.depth = (2 * (P.types.size + Made.depth) + 1) + 1 := rfl
  rw [hd]
  simp only [liesAt, Bool.or_eq_true]
  left
  rw [hd]
  simp [rowAt, hc, sameLayout]
  omega

theorem run_str {P : Program} (w : World) (pt it ty e : TypeId) (hp : P.underlying pt = some (.pointer e)) (hc : P.cellsOf e = 1) (g o cells : Nat) (hsh : w.shape? g = some (e, cells)) (l : List UInt8) (h0 : l ≠ []) (hn : o + l.length ≤ cells) (h63 : l.length ≤ 9223372036854775807)
    (hcell : ∀ j x, l[j]? = some x → w.cell? ((⟨g, o, none⟩ : Addr).add j) = some (.int .u8 x.toNat)) :
    (Builtin.unsafeString_ #[pt, it] ty #[.pointer (some ⟨g, o, none⟩), .int .i64 l.length]).run P w = .ok (.string ⟨l.toArray⟩) (w.freeze ⟨g, o, none⟩ l.length) := by
  have hl : l.length ≠ 0 := by simpa using h0
  have hlb := Lib.run_loadBytes (P := P) w l ⟨g, o, none⟩ .empty hcell
  have hlies := lies_off (P := P) hc (cells / P.cellsOf e) o l.length (by rw [hc]; simpa using hn) (by omega)
  have h63' : ¬ (9223372036854775807 : Int) < (l.length : Int) := by omega
  have hdef : Builtin.unsafeString_ #[pt, it] ty #[.pointer (some ⟨g, o, none⟩), .int .i64 l.length] =
      (do
        let n ← asInt (.int .i64 l.length)
        if n < 0 then runtimePanic (.error "unsafe.String: len out of range")
        if n > IntKind.i64.max then unsupported (.unsafePointer "String: a length above the largest int")
        if n = 0 then pure (.string .empty)
        else if ← variablesAt ⟨g, o, none⟩ (← elemOf pt) n.toNat then do
          let s ← loadBytes ⟨g, o, none⟩ .empty n.toNat
          freeze ⟨g, o, none⟩ n.toNat
          pure (.string s)
        else unsupported (.unsafePointer "String: not so many bytes at ptr")) := rfl
  rw [hdef]
  have hmax : IntKind.i64.max = 9223372036854775807 := rfl
  have hneg : ¬ (l.length : Int) < 0 := by omega
  simp [asInt, asIntOf, hmax, h63', hneg, hl, variablesAt, hsh, elemOf, run_underlying hp, hlies, hlb]

set_option maxHeartbeats 1000000 in
set_option maxRecDepth 100000 in
theorem str_law : StrLaw Tryz.prog 45 101 5 := by
  intro b g o cap l w cg fg h1 hsh hg hne hcap hle h32 hcell
  have mixed := bld_mixed
  have hl0 : l.length ≠ 0 := by simpa using hne
  have c1 : w.drew.cell? ⟨b, 1, none⟩ = some (.slice (some ⟨g, o, none⟩) l.length cap) := h1
  have hSD : (Builtin.unsafeSliceData_ #[78] 177 #[.slice (some ⟨g, o, none⟩) l.length cap]).run Tryz.prog w.drew = .ok (.pointer (some ⟨g, o, none⟩)) w.drew :=
    Lib.run_unsafeSliceData_row _ _ _ _ _ _ (by omega)
  have hUS : (Builtin.unsafeString_ #[177, 3] 9 #[.pointer (some ⟨g, o, none⟩), .int .i64 l.length]).run Tryz.prog w.drew = .ok (.string ⟨l.toArray⟩) (w.drew.freeze ⟨g, o, none⟩ l.length) := by
    refine run_str w.drew _ _ _ 5 bld_ptr bld_one g o cg.size (by have hg' : w.drew.heap[g]? = some (.cells cg 5 fg) := hg; simp [World.shape?, hg']) l hne hle (by omega) hcell
  go_enter Tryz.func45, Tryz.ntmps45
  go_wp2
  go_region_o
  all_goals (go_wp2; go_ret; exact ⟨rfl, rfl⟩)
end Tz
namespace Tz
open Go Ax
variable [Ax.Sy]
noncomputable section
def orcBl (m : Int) : T Oc := ((orc15 m).put (some (oChk 101)) (Ps.key 111)).put (some (oStr 101 5)) (Ps.key 45)
theorem orcBl_ok (m : Int) (ng : Nat) : OrcsOk Go.Proofs.Tryz.prog ng (gls m) (orcBl m) := orcs_put (orcs_put (orc15_ok m ng) (oChk_ok chk_law)) (oStr_ok str_law)
abbrev u8 (n : Nat) : AV := .int .u8 (.ofNat n)
end
end Tz
