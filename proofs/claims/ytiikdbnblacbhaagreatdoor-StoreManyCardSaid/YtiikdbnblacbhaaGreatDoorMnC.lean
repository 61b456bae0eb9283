/- StoreMany answers true at every argument: its row, and its tied card; on no condition. -/
import Derived.Test.YtiikdbnblacbhaaGreatDoorMnr
import Derived.Test.YtiikdbnblacbhaaGreatDoorLift
import Derived.Test.YtiikdbnblacbhaaGreatDoorMnF
import Derived.Test.YtiikdbnblacbhaaGreatDoorTie
import Derived.Test.YtiikdbnblacbhaaGreatDoorCards
set_option linter.unusedVariables false
set_option linter.unusedSimpArgs false
set_option linter.unusedSectionVars false
namespace Go.Proofs.YtiikdbnblacbhaaGreatDoor
open Go Go.RowKit Go.ChangeShapes Go.WideShapes Go.ChangeAt Go.Proofs

theorem storeMany_calls {W : World} (n0 : Int) (n1 : Bool) (hL : laidMet Tryz.prog Rows.storeManyRow.laid W) (hsh : W.ShapedOpen Tryz.prog) :
    Calls Tryz.prog 5 #[.int .i64 n0, .bool n1] W fun e w' => e = .returned (.bool true) ∧ Below W.heap.size W w' := by
  letI : Ax.Sy := { str := fun _ => [] }
  obtain ⟨m, hR⟩ := Tz.rel_of hL hsh (by simp [Rows.storeManyRow]) (by simp [Rows.storeManyRow]) (by simp [Rows.storeManyRow]) (by simp [Rows.storeManyRow])
  have h0 : Ax.g (fun _ => none) (.sint .i64 n0 [(-30, n0 % 30)]) = some (.int .i64 n0) := by
    have : Ax.hintOk n0 [(-30, n0 % 30)] = true := by simp [Ax.hintOk, Ax.hint1]
    simp only [Ax.g, this, if_true]
  have h1 : Ax.g (fun _ => none) (.bool n1) = some (.bool n1) := rfl
  exact Tz.args_below (E := Tz.EG m (Tz.orcMc m)) (Tz.EG_ok m 8 (Tz.orcMc_ok m 8)) (Tz.runStoreMany m n0 n1) (by simp only [Ax.gL, h0, h1, Option.bind_some, Option.map_some]) hR

set_option maxRecDepth 100000 in
theorem storeMany_lifted (os : Os) (started : os.Started) (H : Type) (enc : TypeId × Value → H) :
    ReturnsInHanded {} Tryz.checked os 5 .any (fun w args => (Rows.storeManySpec.pre enc Tryz.prog Tryz.f5 [] false w args ∧ laidMetH Tryz.prog Rows.storeManyRow.laid w) ∧ sizedMet enc Tryz.prog Tryz.f5 (OpenSpec.ofChange Rows.storeManySpec) false w args)
      (Rows.storeManySpec.post enc Tryz.prog Tryz.f5 false true false false) := by
  refine Tz.lift_shaped (C := Tryz.checked) (X := fun w _ => laidMetH Tryz.prog Rows.storeManyRow.laid w) (fun _ _ _ hh h => h.of_heap hh) Tz.own started (by kernel_rfl) Tryz.func5
    (ChangeSpec.witness_shaped (enc := enc) (C := Tryz.checked) (os := os) (X := fun w _ => laidMetH Tryz.prog Rows.storeManyRow.laid w) false (World.laidAll Tryz.prog os Rows.storeManyRow.laid) #[.int .i64 0, .bool false] 8 (World.laidAll_os _ _ _)
      (World.shaped_of_ZipB (by kernel_rfl) (by kernel_rfl)) (by kernel_rfl) (by kernel_rfl) (by kernel_rfl)
      (by rw [MakeChecks.laidMetH_plain _ _ _ (by kernel_rfl)]; exact laidMet_laidAll _ (by kernel_rfl) (by kernel_rfl))) ?_
  intro W base args ds gs before hval0 hW hL hsh
  have hval : ∀ (j : Nat) t v, Tryz.f5.params[j]? = some t → args[j]? = some v → Value.okWide Tryz.prog W .any base t v := hval0
  have hW' := hW
  obtain ⟨p, q, hA0, hV, rfl, _, _⟩ := hW
  have hA : DataW.TrodAll enc Tryz.prog W 0 (fun _ => true) true Tryz.f5.params.toList args.toList ds p := hA0
  rw [Tryz.params5] at hA hval
  obtain ⟨v0, v1, d0, d1, p0, p1, rfl, rfl, rfl, h0, h1⟩ := trodAll_two hA
  obtain ⟨rfl, rfl⟩ := trodVars_none hV
  obtain ⟨x, rfl, rfl, rfl, wx⟩ := open_int Tryz.underlying3 (hval 0 3 v0 rfl rfl) h0
  obtain ⟨y, rfl, rfl, rfl⟩ := open_bool Tryz.underlying4 (hval 1 4 v1 rfl rfl) h1
  simp only [List.append_nil] at hW'
  rw [MakeChecks.laidMetH_plain _ _ _ (by kernel_rfl)] at hL
  refine (storeMany_calls x y hL hsh).mono fun e W' ⟨he, hb⟩ => ?_
  subst he
  exact ⟨_, rfl, _, _, _, [], [], [], hW', trodAll_mk1 (shut_bool Tryz.underlying4 _), trodAll_mk2 (shut_int Tryz.underlying3 wx) (shut_bool Tryz.underlying4 _), rfl, hb.frame _, fun h => by cases h⟩

theorem storeMany_holds : Rows.StoreManyCardSaid := storeMany_card_of (storeMany_row_of storeMany_lifted)
#print axioms storeMany_holds
end Go.Proofs.YtiikdbnblacbhaaGreatDoor
