/- ServeNone answers true at every argument, as its tied card says; on no condition. -/
import Derived.Test.YtdimdhloklnkmaaGreatDoorSnR
import Derived.Test.YtdimdhloklnkmaaGreatDoorLift
import Derived.Test.YtdimdhloklnkmaaGreatDoorSnF
import Derived.Test.YtdimdhloklnkmaaGreatDoorTie
import Derived.Test.YtdimdhloklnkmaaGreatDoorCards
set_option linter.unusedVariables false
set_option linter.unusedSimpArgs false
set_option linter.unusedSectionVars false
namespace Go.Proofs.YtdimdhloklnkmaaGreatDoor
open Go Go.RowKit Go.ChangeShapes Go.WideShapes Go.ChangeAt Go.Proofs

theorem serveNone_calls {W : World}  (hL : laidMet Tryz.prog Rows.serveNoneRow.laid W) (hsh : W.ShapedOpen Tryz.prog) :
    Calls Tryz.prog 3 #[] W fun e w' => e = .returned (.bool true) ∧ Below W.heap.size W w' := by
  letI : Ax.Sy := { str := fun _ => [] }
  obtain ⟨m, hR⟩ := Tz.rel_of hL hsh (by simp [Rows.serveNoneRow]) (by simp [Rows.serveNoneRow]) (by simp [Rows.serveNoneRow]) (by simp [Rows.serveNoneRow])
  obtain ⟨h', hc⟩ := Tz.isTrue_ok (Tz.runServeNone m)
  exact Ax.closed_below (E := Tz.EG m (Tz.orc19 m)) (Tz.plain m) (Tz.EG_ok m 8 (Tz.orc19_ok m 8)) hc hR

set_option maxRecDepth 100000 in
theorem serveNone_lifted (os : Os) (started : os.Started) (H : Type) (enc : TypeId × Value → H) :
    ReturnsInHanded {} Tryz.checked os 3 .any (fun w args => (Rows.serveNoneSpec.pre enc Tryz.prog Tryz.f3 [] false w args ∧ laidMetH Tryz.prog Rows.serveNoneRow.laid w) ∧ sizedMet enc Tryz.prog Tryz.f3 (OpenSpec.ofChange Rows.serveNoneSpec) false w args)
      (Rows.serveNoneSpec.post enc Tryz.prog Tryz.f3 false true false false) := by
  refine Tz.lift_shaped (C := Tryz.checked) (X := fun w _ => laidMetH Tryz.prog Rows.serveNoneRow.laid w) (fun _ _ _ hh h => h.of_heap hh) Tz.own started (by kernel_rfl) Tryz.func3
    (ChangeSpec.witness_shaped (enc := enc) (C := Tryz.checked) (os := os) (X := fun w _ => laidMetH Tryz.prog Rows.serveNoneRow.laid w) false (World.laidAll Tryz.prog os Rows.serveNoneRow.laid) #[] 8 (World.laidAll_os _ _ _)
      (World.shaped_of_ZipB (by kernel_rfl) (by kernel_rfl)) (by kernel_rfl) (by kernel_rfl) (by kernel_rfl)
      (by rw [MakeChecks.laidMetH_plain _ _ _ (by kernel_rfl)]; exact laidMet_laidAll _ (by kernel_rfl) (by kernel_rfl))) ?_
  intro W base args ds gs before hval0 hW hL hsh
  have hval : ∀ (j : Nat) t v, Tryz.f3.params[j]? = some t → args[j]? = some v → Value.okWide Tryz.prog W .any base t v := hval0
  have hW' := hW
  obtain ⟨p, q, hA0, hV, rfl, _, _⟩ := hW
  have hA : DataW.TrodAll enc Tryz.prog W 0 (fun _ => true) true Tryz.f3.params.toList args.toList ds p := hA0
  rw [Tryz.params3] at hA hval
  obtain ⟨rfl, rfl, rfl⟩ := trodAll_none hA
  obtain ⟨rfl, rfl⟩ := trodVars_none hV
  simp only [List.append_nil] at hW'
  rw [MakeChecks.laidMetH_plain _ _ _ (by kernel_rfl)] at hL
  refine (serveNone_calls  hL hsh).mono fun e W' ⟨he, hb⟩ => ?_
  subst he
  exact ⟨_, rfl, _, _, _, [], [], [], hW', trodAll_mk1 (shut_bool Tryz.underlying4 _), rfl, rfl, hb.frame _, fun h => by cases h⟩

theorem serveNone_holds : Rows.ServeNoneCardSaid := serveNone_card_of (serveNone_row_of serveNone_lifted)
#print axioms serveNone_holds
end Go.Proofs.YtdimdhloklnkmaaGreatDoor
