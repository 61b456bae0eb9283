/- WalkDeep answers true at every argument: the tied card; on no condition but what the row itself lists. -/
import Derived.Test.YtnnfledihhiaiaaGreatDoorWdR
import Derived.Test.YtnnfledihhiaiaaGreatDoorZLift
import Derived.Test.YtnnfledihhiaiaaGreatDoorWdF
import Derived.Test.YtnnfledihhiaiaaGreatDoorTie
import Derived.Test.YtnnfledihhiaiaaGreatDoorCards
set_option linter.unusedVariables false
set_option linter.unusedSimpArgs false
set_option linter.unusedSectionVars false
namespace Go.Proofs.YtnnfledihhiaiaaGreatDoor
open Go Go.RowKit Go.ChangeShapes Go.WideShapes Go.ChangeAt Go.Proofs

theorem walkDeep_calls {W : World} (n0 : Int) (hL : laidMet Tryz.prog Rows.walkDeepRow.laid W) (hsh : W.ShapedOpen Tryz.prog) :
    Calls Tryz.prog 4 #[.int .i64 n0] W fun e w' => e = .returned (.bool true) ∧ Below W.heap.size W w' := by
  letI : Ax.Sy := { str := fun _ => [] }
  obtain ⟨m, hR⟩ := Tz.rel_of hL hsh (by simp [Rows.walkDeepRow]) (by simp [Rows.walkDeepRow]) (by simp [Rows.walkDeepRow]) (by simp [Rows.walkDeepRow])
  have h0 : Ax.g (fun _ => none) (.sint .i64 n0 [(-8, n0 % 8)]) = some (.int .i64 n0) := by
    have : Ax.hintOk n0 [(-8, n0 % 8)] = true := by simp [Ax.hintOk, Ax.hint1]
    simp only [Ax.g, this, if_true]
  exact Tz.args_below (E := Tz.EG m (Tz.orcDeep m)) (Tz.EG_ok m 9 (Tz.orcDeep_ok m 9)) (Tz.runWalkDeep m n0) (by simp only [Ax.gL, h0, Option.bind_some, Option.map_some]) hR

set_option maxRecDepth 100000 in
theorem walkDeep_lifted (os : Os) (started : os.Started) (H : Type) (enc : TypeId × Value → H) :
    ReturnsInHanded {} Tryz.checked os 4 .any (fun w args => (Rows.walkDeepSpec.pre enc Tryz.prog Tryz.f4 [] false w args ∧ laidMetH Tryz.prog Rows.walkDeepRow.laid w) ∧ sizedMet enc Tryz.prog Tryz.f4 (OpenSpec.ofChange Rows.walkDeepSpec) false w args)
      (Rows.walkDeepSpec.post enc Tryz.prog Tryz.f4 false true false false) := by
  refine Tz.lift_shaped (C := Tryz.checked) (X := fun w _ => laidMetH Tryz.prog Rows.walkDeepRow.laid w) (fun _ _ _ hh h => h.of_heap hh) Tz.own started (by kernel_rfl) Tryz.func4
    (ChangeSpec.witness_shaped (enc := enc) (C := Tryz.checked) (os := os) (X := fun w _ => laidMetH Tryz.prog Rows.walkDeepRow.laid w) false (World.laidAll Tryz.prog os Rows.walkDeepRow.laid) #[.int .i64 0] 8 (World.laidAll_os _ _ _)
      (World.shaped_of_ZipB (by kernel_rfl) (by kernel_rfl)) (by kernel_rfl) (by kernel_rfl) (by kernel_rfl)
      (by rw [MakeChecks.laidMetH_plain _ _ _ (by kernel_rfl)]; exact laidMet_laidAll _ (by kernel_rfl) (by kernel_rfl))) ?_
  intro W base args ds gs before hval0 hW hL hsh
  have hval : ∀ (j : Nat) t v, Tryz.f4.params[j]? = some t → args[j]? = some v → Value.okWide Tryz.prog W .any base t v := hval0
  have hW' := hW
  obtain ⟨p, q, hA0, hV, rfl, _, _⟩ := hW
  have hA : DataW.TrodAll enc Tryz.prog W 0 (fun _ => true) true Tryz.f4.params.toList args.toList ds p := hA0
  rw [Tryz.params4] at hA hval
  obtain ⟨v0, d0, rfl, rfl, h0⟩ := trodAll_one hA
  obtain ⟨rfl, rfl⟩ := trodVars_none hV
  obtain ⟨x, rfl, rfl, rfl, wx⟩ := open_int Tryz.underlying3 (hval 0 3 v0 rfl rfl) h0
  simp only [List.append_nil] at hW'
  rw [MakeChecks.laidMetH_plain _ _ _ (by kernel_rfl)] at hL
  refine (walkDeep_calls x hL hsh).mono fun e W' ⟨he, hb⟩ => ?_
  subst he
  exact ⟨_, rfl, _, _, _, [], [], [], hW', trodAll_mk1 (shut_bool Tryz.underlying4 _), trodAll_mk1 (shut_int Tryz.underlying3 wx), rfl, hb.frame _, fun h => by cases h⟩

theorem walkDeep_holds : Rows.WalkDeepCardSaid := walkDeep_card_of (walkDeep_row_of walkDeep_lifted)
#print axioms walkDeep_holds
end Go.Proofs.YtnnfledihhiaiaaGreatDoor
