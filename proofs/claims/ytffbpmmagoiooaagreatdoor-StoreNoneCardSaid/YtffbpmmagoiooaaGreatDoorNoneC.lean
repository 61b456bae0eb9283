/- StoreNone answers true: the tied card; on no condition but what the row itself lists. -/
import Derived.Test.YtffbpmmagoiooaaGreatDoorNoneR
import Derived.Test.YtffbpmmagoiooaaGreatDoorLift
import Derived.Test.YtffbpmmagoiooaaGreatDoorNoneF
import Derived.Test.YtffbpmmagoiooaaGreatDoorTie
import Derived.Test.YtffbpmmagoiooaaGreatDoorCards
set_option linter.unusedVariables false
set_option linter.unusedSimpArgs false
namespace Go.Proofs.YtffbpmmagoiooaaGreatDoor
open Go Go.RowKit Go.ChangeShapes Go.WideShapes Go.ChangeAt Go.Proofs

/-- A call without arguments that gives true. -/
theorem none_calls {W : World} (hL : laidMet Tryz.prog Rows.storeNoneRow.laid W) (hsh : W.ShapedOpen Tryz.prog) :
    Calls Tryz.prog 12 #[] W fun e w' => e = .returned (.bool true) ∧ Below W.heap.size W w' := by
  obtain ⟨m, hR⟩ := Tz.rel_of hL hsh (by simp [Rows.storeNoneRow]) (by simp [Rows.storeNoneRow]) (by simp [Rows.storeNoneRow]) (by simp [Rows.storeNoneRow])
  obtain ⟨h', hc⟩ := Tz.isTrue_ok (Tz.runNone m)
  exact Ax.closed_below (E := Tz.EG m (Tz.orc13 m)) (Tz.plain m) (Tz.EG_ok m 8 (Tz.orc13_ok m 8)) hc hR

set_option maxRecDepth 100000 in
theorem none_lifted (os : Os) (started : os.Started) (H : Type) (enc : TypeId × Value → H) :
    ReturnsInHanded {} Tryz.checked os 12 .any (fun w args => (Rows.storeNoneSpec.pre enc Tryz.prog Tryz.f12 [] false w args ∧ laidMetH Tryz.prog Rows.storeNoneRow.laid w) ∧ sizedMet enc Tryz.prog Tryz.f12 (OpenSpec.ofChange Rows.storeNoneSpec) false w args)
      (Rows.storeNoneSpec.post enc Tryz.prog Tryz.f12 false true false false) := by
  refine Tz.lift_shaped (C := Tryz.checked) (X := fun w _ => laidMetH Tryz.prog Rows.storeNoneRow.laid w) (fun _ _ _ hh h => h.of_heap hh) Tz.own started (by kernel_rfl) Tryz.func12
    (ChangeSpec.witness_shaped (enc := enc) (C := Tryz.checked) (os := os) (X := fun w _ => laidMetH Tryz.prog Rows.storeNoneRow.laid w) false (World.laidAll Tryz.prog os Rows.storeNoneRow.laid) #[] 8 (World.laidAll_os _ _ _)
      (World.shaped_of_ZipB (by kernel_rfl) (by kernel_rfl)) (by kernel_rfl) (by kernel_rfl) (by kernel_rfl)
      (by rw [MakeChecks.laidMetH_plain _ _ _ (by kernel_rfl)]; exact laidMet_laidAll _ (by kernel_rfl) (by kernel_rfl))) ?_
  intro W base args ds gs before hval0 hW hL hsh
  have hW' := hW
  obtain ⟨p, q, hA0, hV, rfl, _, _⟩ := hW
  have hA : DataW.TrodAll enc Tryz.prog W 0 (fun _ => true) true Tryz.f12.params.toList args.toList ds p := hA0
  rw [Tryz.params12] at hA
  obtain ⟨rfl, rfl⟩ := trodVars_none hV
  obtain ⟨h1, rfl, rfl⟩ : args = #[] ∧ ds = [] ∧ p = [] := by
    rcases hx : args.toList with _ | ⟨a, l⟩
    · rw [hx] at hA
      cases ds with
      | nil => exact ⟨by simpa using hx, rfl, hA⟩
      | cons d ds => exact hA.elim
    · rw [hx] at hA
      cases ds <;> exact hA.elim
  subst h1
  simp only [List.append_nil] at hW'
  rw [MakeChecks.laidMetH_plain _ _ _ (by kernel_rfl)] at hL
  refine (none_calls hL hsh).mono fun e W' ⟨he, hb⟩ => ?_
  subst he
  exact ⟨_, rfl, _, _, _, [], [], [], hW', trodAll_mk1 (shut_bool Tryz.underlying4 _), rfl, rfl, hb.frame _, fun h => by cases h⟩

theorem storeNone_holds : Rows.StoreNoneCardSaid := storeNone_card_of (storeNone_row_of none_lifted)
#print axioms storeNone_holds
end Go.Proofs.YtffbpmmagoiooaaGreatDoor
