/- The oracles at this program are right; on no condition. -/
import Derived.Test.YtdimdhloklnkmaaGreatDoorSha
import Derived.Test.YtdimdhloklnkmaaGreatDoorAxG
import Derived.Test.YtdimdhloklnkmaaGreatDoorAxF
import Derived.Test.YtdimdhloklnkmaaGreatDoorShelf
import Derived.Test.YtdimdhloklnkmaaGreatDoorShelfb
import Derived.Test.YtdimdhloklnkmaaGreatDoorKeya
import Derived.Test.YtdimdhloklnkmaaGreatDoorKeyb
import Derived.Test.YtdimdhloklnkmaaGreatDoorKeyc
set_option linter.unusedVariables false
set_option linter.unusedSimpArgs false
set_option linter.unusedSectionVars false
namespace Tz
open Go Ax
variable [Ax.Sy]
noncomputable section
theorem idx_ok (m : Int) (ng : Nat) : OOk Go.Proofs.Tryz.prog ng (gls m) 331 oIdx :=
  oIdx_ok (g0 := 1) (m := m) (by simp only [glF, gls, T.get_put, if_true]) fun s sub m w h1 h2 => Go.Proofs.Tryz.stringslite_Index s sub m w h1 h2
theorem join_ok (m : Int) (ng : Nat) : OOk Go.Proofs.Tryz.prog ng (gls m) 177 (oJoin (gls m)) :=
  oJoin_ok fun bk o c xs sep w h1 h2 h3 h4 h5 => Go.Proofs.Tryz.strings_Join bk o c xs sep w h1 h2 h3 h4 h5
theorem rep_ok (m : Int) (ng : Nat) : OOk Go.Proofs.Tryz.prog ng (gls m) 139 oRep :=
  oRep_ok fun s c w h1 h2 => Go.Proofs.Tryz.strings_Repeat s c w h1 h2
theorem collO : CollLaw Go.Proofs.Tryz.prog 121 193 46 :=
  fun Bm of b nn D0 w h1 h2 h3 h4 h5 => (Tzo.collect_keys Bm of b nn D0 w h1 h2 h3 h4 h5).mono fun e w' he => by
    obtain ⟨v, xs, he, ⟨ss, hp, hk⟩, hrow, hnil, hb⟩ := he
    refine ⟨v, xs.map (·.l), ss, he, hp, by have h7 := Tzo.keysS_map hk; unfold Tzo.readsI at h7; exact h7, ?_, by rw [hnil]; simp, hb⟩
    rw [List.length_map]
    have : (xs.map (·.l)).flatten = Tzo.cellsI xs := by simp [Tzo.cellsI, List.flatMap]
    rw [this]; exact hrow
theorem collB : CollLaw Go.Proofs.Tryz.prog 121 283 46 :=
  fun Bm of b nn D0 w h1 h2 h3 h4 h5 => (Tzb.collect_keys Bm of b nn D0 w h1 h2 h3 h4 h5).mono fun e w' he => by
    obtain ⟨v, xs, he, ⟨ss, hp, hk⟩, hrow, hnil, hb⟩ := he
    refine ⟨v, xs.map (·.l), ss, he, hp, by have h7 := Tzb.keysS_map hk; unfold Tzb.readsI at h7; exact h7, ?_, by rw [hnil]; simp, hb⟩
    rw [List.length_map]
    have : (xs.map (·.l)).flatten = Tzb.cellsI xs := by simp [Tzb.cellsI, List.flatMap]
    rw [this]; exact hrow
theorem collT : CollLaw Go.Proofs.Tryz.prog 121 416 46 :=
  fun Bm of b nn D0 w h1 h2 h3 h4 h5 => (Tzt.collect_keys Bm of b nn D0 w h1 h2 h3 h4 h5).mono fun e w' he => by
    obtain ⟨v, xs, he, ⟨ss, hp, hk⟩, hrow, hnil, hb⟩ := he
    refine ⟨v, xs.map (·.l), ss, he, hp, by have h7 := Tzt.keysS_map hk; unfold Tzt.readsI at h7; exact h7, ?_, by rw [hnil]; simp, hb⟩
    rw [List.length_map]
    have : (xs.map (·.l)).flatten = Tzt.cellsI xs := by simp [Tzt.cellsI, List.flatMap]
    rw [this]; exact hrow
def oCols : Oc := oElse (oCollN 46 193) (oElse (oCollN 46 283) (oCollN 46 416))
theorem coll_ok (m : Int) (ng : Nat) : OOk Go.Proofs.Tryz.prog ng (gls m) 121 oCols :=
  oElse_ok (oCollN_ok (fun ns h1 h2 => Tzo.keyI_mk ns h1 h2) (fun h1 h2 => Tzo.itK.inj h1 h2) collO) (oElse_ok (oCollN_ok (fun ns h1 h2 => Tzo.keyI_mk ns h1 h2) (fun h1 h2 => Tzo.itK.inj h1 h2) collB) (oCollN_ok (fun ns h1 h2 => Tzo.keyI_mk ns h1 h2) (fun h1 h2 => Tzo.itK.inj h1 h2) collT))
end
end Tz
namespace Tz
open Go Ax
variable [Ax.Sy]
noncomputable section
/-- The oracles beneath guard.Do's. -/
def orcA (m : Int) (EL : TypeId) : T Oc := ((((((T.nil.put (some oIdx) (Ps.key 331)).put (some (oClo fBlk)) (Ps.key 275)).put (some (oJoin (gls m))) (Ps.key 177)).put (some oRep) (Ps.key 139)).put (some (oPre EL fMix)) (Ps.key 166)).put (some oCols) (Ps.key 121))
theorem orcA_ok (m : Int) (EL : TypeId) (ng : Nat) : OrcsOk Go.Proofs.Tryz.prog ng (gls m) (orcA m EL) :=
  orcs_put (orcs_put (orcs_put (orcs_put (orcs_put (orcs_put orcs_nil (idx_ok m ng)) (blk_ok m ng)) (join_ok m ng)) (rep_ok m ng)) (mix_ok m EL ng)) (coll_ok m ng)

/-- What oracles come to, once guard.Do is one more. -/
def EA (m : Int) (o : T Oc) : Ax.Env := { P := Go.Proofs.Tryz.prog, gl := gls m, orc := o, ext := xs }
def EG (m : Int) (o : T Oc) : Ax.Env := { P := Go.Proofs.Tryz.prog, gl := gls m, orc := o.put (some (gDo (EA m o) 100000 gd)) (Ps.key 236), ext := xs }
theorem EG_ok (m : Int) (ng : Nat) {o : T Oc} (ho : OrcsOk Go.Proofs.Tryz.prog ng (gls m) o) : CalOk Go.Proofs.Tryz.prog ng (gls m) (call (EG m o) 100000) := by
  have h0 : OrcOk (EA m o) ng := orc_of (E := EA m o) ho
  have h1 : OrcOk (EG m o) ng := orc_of (E := EG m o) (orcs_put ho fun vs h r hr _ φ w A hA hR => gDo_ok (E := EA m o) (plain m) (xs_ok _ _) mixed h0 gd_ok hr hA hR)
  exact call_ok (E := EG m o) (xs_ok _ _) (dra_ok (E := EG m o) (plain m) (xs_ok _ _) mixed) h1 100000
/-- A function that gives true in the empty heap gives it in any. -/
theorem true_ok (m : Int) {o : T Oc} {f : FuncId} (ho : ∀ ng, OrcsOk Go.Proofs.Tryz.prog ng (gls m) o) (hrun : isTrue (callF (EG m o) 100000 f [] Hp.empty) = true) (ng : Nat) : OOk Go.Proofs.Tryz.prog ng (gls m) f oTrue := by
  rw [callF_eq] at hrun
  obtain ⟨h', hc⟩ := isTrue_ok hrun
  exact oTrue_ok fun _ _ _ hR => closed_below (E := EG m o) (plain m) (EG_ok m ng (ho ng)) hc hR
end
end Tz
