/- DiskFuse answers true at every argument: the tied card; on no condition but what the row itself lists. -/
import Derived.Test.YtiikdbnblacbhaaGreatDoorFus
import Derived.Test.YtiikdbnblacbhaaGreatDoorBegc
import Derived.Test.YtiikdbnblacbhaaGreatDoorLift
import Derived.Test.YtiikdbnblacbhaaGreatDoorFusF
import Derived.ChangeMaps5
import Derived.Test.YtiikdbnblacbhaaGreatDoorTie
import Derived.Test.YtiikdbnblacbhaaGreatDoorCards
set_option linter.unusedVariables false
set_option linter.unusedSimpArgs false
set_option linter.unusedSectionVars false
namespace Go.Proofs.YtiikdbnblacbhaaGreatDoor
open Go Go.RowKit Go.ChangeShapes Go.WideShapes Go.ChangeAt Go.Proofs

theorem fuse_begun {W : World} (hL : laidMet Tryz.prog Rows.diskFuseRow.laid W) (hsh : W.ShapedOpen Tryz.prog) :
    Calls Tryz.prog 8 #[] W fun e w' => e = .returned (.bool true) ∧ Below W.heap.size W w' := by
  letI : Ax.Sy := { str := fun _ => [] }
  obtain ⟨m, hR⟩ := Tz.rel_of hL hsh (by simp [Rows.diskFuseRow]) (by simp [Rows.diskFuseRow]) (by simp [Rows.diskFuseRow]) (by simp [Rows.diskFuseRow])
  have hrun := Tz.run13 m
  rw [Ax.callF_eq] at hrun
  obtain ⟨h', hc⟩ := Tz.isTrue_ok hrun
  exact Ax.closed_below (E := Tz.EG m (Tz.orcS m)) (Tz.plain m) (Tz.EG_ok m 8 (Tz.orcS_ok m 8)) hc hR

set_option maxRecDepth 100000 in
theorem diskFuse_lifted (os : Os) (started : os.Started) (H : Type) (enc : TypeId × Value → H) :
    ReturnsInHanded {} Tryz.checked os 7 .any (fun w args => (Rows.diskFuseSpec.pre enc Tryz.prog Tryz.f7 [] false w args ∧ laidMetH Tryz.prog Rows.diskFuseRow.laid w) ∧ sizedMet enc Tryz.prog Tryz.f7 (OpenSpec.ofChange Rows.diskFuseSpec) false w args)
      (Rows.diskFuseSpec.post enc Tryz.prog Tryz.f7 false true false false) := by
  refine Tz.lift_shaped (C := Tryz.checked) (X := fun w _ => laidMetH Tryz.prog Rows.diskFuseRow.laid w) (fun _ _ _ hh h => h.of_heap hh) Tz.own started (by kernel_rfl) Tryz.func7
    (ChangeSpec.witness_shaped (enc := enc) (C := Tryz.checked) (os := os) (X := fun w _ => laidMetH Tryz.prog Rows.diskFuseRow.laid w) false (World.laidAll Tryz.prog os Rows.diskFuseRow.laid) #[.int .i64 0, .int .i64 0, .int .u64 0] 8 (World.laidAll_os _ _ _)
      (World.shaped_of_ZipB (by kernel_rfl) (by kernel_rfl)) (by kernel_rfl) (by kernel_rfl) (by kernel_rfl)
      (by rw [MakeChecks.laidMetH_plain _ _ _ (by kernel_rfl)]; exact laidMet_laidAll _ (by kernel_rfl) (by kernel_rfl))) ?_
  intro W base args ds gs before hval0 hW hL hsh
  have hval : ∀ (j : Nat) t v, Tryz.f7.params[j]? = some t → args[j]? = some v → Value.okWide Tryz.prog W .any base t v := hval0
  have hW' := hW
  obtain ⟨p, q, hA0, hV, rfl, _, _⟩ := hW
  have hA : DataW.TrodAll enc Tryz.prog W 0 (fun _ => true) true Tryz.f7.params.toList args.toList ds p := hA0
  rw [Tryz.params7] at hA hval
  obtain ⟨v0, v1, v2, d0, d1, d2, p0, p1, p2, rfl, rfl, rfl, h0, h1, h2⟩ := trodAll_three hA
  obtain ⟨rfl, rfl⟩ := trodVars_none hV
  obtain ⟨x, rfl, rfl, rfl, wx⟩ := open_int Tryz.underlying3 (hval 0 3 v0 rfl rfl) h0
  obtain ⟨y, rfl, rfl, rfl, wy⟩ := open_int Tryz.underlying3 (hval 1 3 v1 rfl rfl) h1
  obtain ⟨z, rfl, rfl, rfl, wz⟩ := open_int Tryz.underlying25 (hval 2 25 v2 rfl rfl) h2
  simp only [List.append_nil] at hW'
  rw [MakeChecks.laidMetH_plain _ _ _ (by kernel_rfl)] at hL
  obtain ⟨k0, k1⟩ : 0 ≤ z ∧ z < 18446744073709551616 := by
    have := wz
    simp [Lit.wf, IntKind.min, IntKind.max, IntKind.signed, IntKind.bits] at this
    omega
  refine (Dk.fuse_law x y z k0 k1 W (fuse_begun hL hsh)).mono fun e W' ⟨he, hb⟩ => ?_
  subst he
  exact ⟨_, rfl, _, _, _, [], [], [], hW', trodAll_mk1 (shut_bool Tryz.underlying4 _), trodAll_mk3 (shut_int Tryz.underlying3 wx) (shut_int Tryz.underlying3 wy) (shut_int Tryz.underlying25 wz), rfl, hb.frame _, fun h => by cases h⟩

theorem diskFuse_holds : Rows.DiskFuseCardSaid := diskFuse_card_of (diskFuse_row_of diskFuse_lifted)
#print axioms diskFuse_holds
end Go.Proofs.YtiikdbnblacbhaaGreatDoor
